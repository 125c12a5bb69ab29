/- What is proved here: what a disk of pages of 128 bytes is while pages are written; the writes that a law is handed. Conditions: as each theorem names them. -/
import Derived.Test.YtnmdpjbpbiempaaDkS
set_option linter.unusedVariables false
set_option linter.unusedSimpArgs false
namespace Go.Proofs.Ytnmdpjbpbiempaa.P
open Go.RowKit Go.Proofs.YtnmdpjbpbiempaaW.PrintWords Go.Proofs.YtnmdpjbpbiempaaW.PrintLast Go.Proofs.YtnmdpjbpbiempaaW.PrintMore
/-- A page that a law is told to write: where, and of which byte. -/
structure Wr where
  f0 : Int
  f1 : Int
def zWr : Wr := ⟨0, 0⟩
def kWr : Kd Wr := Kd.iso (Kd.pair (Kd.int .u8) (Kd.int .u8)) (fun x : Wr => (x.f0, x.f1))
theorem kWr_open {w : World} {x : Wr} {cs : List Value} (h : kWr.K w x cs) : cs = [.int .u8 x.f0, .int .u8 x.f1] := by
  obtain ⟨_, _, rfl, rfl, rfl⟩ := h
  exact rfl
def rd_Wr (xs : List Wr) (i : Int) : Wr := xs.getD i.toNat zWr
theorem at_Wr {w : World} {A : Option Addr} {n : Nat} {xs : List Wr} (h : Kd.C kWr w A n xs) (i : Int) (h0 : 0 ≤ i) (h1 : i < n) : ∃ ad, A = some ad ∧ w.cell? (ad.add (i.toNat * 2)) = some (.int .u8 (rd_Wr xs i).f0) ∧ w.cell? ⟨(ad.add (i.toNat * 2)).block, (ad.add (i.toNat * 2)).off + 1, none⟩ = some (.int .u8 (rd_Wr xs i).f1) := by
  obtain ⟨ad, c, e, _, hK, hc0⟩ := Kd.C_get h zWr i h0 h1
  have hc : ∀ j u, c[j]? = some u → w.cell? (ad.add (i.toNat * 2 + j)) = some u := hc0
  obtain rfl := kWr_open hK
  exact ⟨ad, e, hc 0 _ rfl, by rw [← add_field _ _ 1 (by omega)]; exact hc 1 _ rfl⟩
def WrOk (x : Wr) : Prop := (0 ≤ x.f0 ∧ x.f0 < 256) ∧ 0 ≤ x.f1 ∧ x.f1 < 256
theorem rd_Wr_ok {xs : List Wr} (h : ∀ x ∈ xs, WrOk x) (i : Int) : WrOk (rd_Wr xs i) := by
  unfold rd_Wr
  rw [List.getD_eq_getElem?_getD]
  by_cases c : i.toNat < xs.length
  · rw [List.getElem?_eq_getElem c]; exact h _ (List.getElem_mem _)
  · rw [List.getElem?_eq_none (by omega)]; exact ⟨⟨by decide, by decide⟩, by decide, by decide⟩
theorem Dk.done_same (d : Dk) (h : ¬ d.left > 0) : d.done = d := by
  cases d
  unfold Dk.done
  simp only at h ⊢
  rw [if_neg h]
/-- A disk of pages of 128 bytes without a limit, on which at most n pages are pending. -/
structure Inv (room : Int) (n : Nat) (d : Dk) : Prop where
  p : d.p = 128
  room : d.room = room
  left : d.left = -1
  ok : d.Ok
  pl : d.pend.length ≤ n
theorem Inv.init (room : Int) (M : Nat → Prop) (h0 : 0 ≤ room) (h1 : room ≤ 4096) : Inv room 0 (fromD 128 room ⟨#[]⟩ M) := by
  have e : pages 128 (padded 128 ⟨#[]⟩) (pagesN 128 ⟨#[]⟩) = [] := by kernel_rfl
  refine ⟨rfl, rfl, rfl, ⟨⟨by show (0 : Int) ≤ 128; decide, by show (128 : Int) ≤ _; decide, by show room ≤ _; omega, ?_, ?_, by show (0 : Nat) < _; decide⟩, ?_, ?_, fun x hx => (List.not_mem_nil hx).elim, by show room < _; omega, ?_, ?_⟩, Nat.le_refl _⟩
  all_goals (show _; simp only [fromD, e]; first | decide | omega | (intro x hx; cases hx) | (simp; omega))
theorem Inv.write {room : Int} {n : Nat} {d : Dk} (h : Inv room n d) (hn : n < 100000) {i : Int} {s : ByteArray} (h0 : 0 ≤ i) (h1 : i < room) (hs : s.size = 128) :
    d.writeE i s = 0 ∧ Inv room (n + 1) (d.write i s) ∧ (d.write i s).reads = d.reads ∧ (d.write i s).kept = d.kept ∧ (d.write i s).now = putL 128 d.now i s ∧ (d.write i s).pend = d.pend ++ [⟨i, s⟩] := by
  have hp := h.p
  have hr := h.room
  have hl := h.left
  have ho := h.ok
  have hpl := h.pl
  have e1 : d.writeE i s = 0 := by
    unfold Dk.writeE
    rw [if_neg (by omega), if_neg (by omega), if_neg (by omega), if_neg (by omega)]
  have e2 : d.write i s = { d with now := putL 128 d.now i s, pend := d.pend ++ [⟨i, s⟩] } := by
    unfold Dk.write
    rw [if_neg (by omega), if_neg (by omega), if_neg (by omega), if_neg (by omega), hp]
    have e3 := Dk.done_same { d with now := putL 128 d.now i s, pend := d.pend ++ [(⟨i, s⟩ : S79)] } (by show ¬ d.left > 0; omega)
    rw [hp] at e3
    exact e3
  rw [e2]
  refine ⟨e1, ⟨hp, hr, hl, ⟨⟨ho.few.p0, ho.few.p1, ho.few.room, ?_, ho.few.kept, ?_⟩, ho.kept, ?_, ?_, ho.room2, ho.klen, ?_⟩, ?_⟩, rfl, rfl, rfl, rfl⟩
  · show (putL 128 d.now i s).length < _
    rw [putL_len]
    have := ho.nlen
    have := ho.room2
    omega
  · show (d.pend ++ [(⟨i, s⟩ : S79)]).length < _
    rw [List.length_append, List.length_singleton]
    omega
  · show ∀ x ∈ putL 128 d.now i s, (x.size : Int) = d.p
    rw [hp]
    exact putL_sizes (by omega) (fun x hx => by rw [← hp]; exact ho.now x hx) (by omega)
  · intro x hx
    rcases List.mem_append.1 hx with hx | hx
    · exact ho.pend x hx
    · obtain rfl := List.mem_singleton.1 hx
      exact ⟨by show (s.size : Int) = d.p; omega, h0, by show i < d.room; omega⟩
  · show ((putL 128 d.now i s).length : Int) ≤ d.room
    rw [putL_len]
    have := ho.nlen
    omega
  · show (d.pend ++ [(⟨i, s⟩ : S79)]).length ≤ n + 1
    rw [List.length_append, List.length_singleton]
    omega
theorem im8 {x : Int} (m : Int) (h : 0 ≤ x ∧ x < 256) (hm : 0 < m) : wrap64 x = x ∧ 0 ≤ x.tmod m ∧ x.tmod m < m := by
  refine ⟨by unfold wrap64; omega, ?_, ?_⟩
  · rw [Int.tmod_eq_emod_of_nonneg h.1]; exact Int.emod_nonneg _ (by omega)
  · rw [Int.tmod_eq_emod_of_nonneg h.1]; exact Int.emod_lt_of_pos _ hm
/-- The same disk, of which i pages were read. -/
def Dk.atR (d : Dk) (i : Int) : Dk := { d with reads := i }
theorem atR_zero (d : Dk) (h : d.reads = 0) : d.atR 0 = d := by cases d; cases h; rfl
theorem atR_next (d : Dk) (i : Int) (h : 0 ≤ i ∧ i < 1000000) : (d.atR i).readD = d.atR (i + 1) := by
  have e : wrap64 (i + 1) = i + 1 := by unfold wrap64; omega
  show ({ d.atR i with reads := wrap64 (i + 1) } : Dk) = _
  rw [e]
  rfl
theorem atR_read (d : Dk) (i k : Int) : (d.atR i).read k = d.read k := rfl
theorem read_out (d : Dk) (k : Int) (h : k < 0 ∨ (d.now.length : Int) ≤ k) : d.read k = (⟨#[]⟩, 4) := by
  unfold Dk.read
  rcases h with h | h
  · rw [if_pos h]
  · by_cases c : k < 0
    · rw [if_pos c]
    · rw [if_neg c, if_pos h]
theorem read_in (d : Dk) (k : Int) (h : 0 ≤ k) (h2 : k < (d.now.length : Int)) : d.read k = (rdOf ByteArray.empty d.now k, 0) := by
  unfold Dk.read
  rw [if_neg (by omega), if_neg (by omega)]
/-- What a row reads outlasts a call that writes the disk's block alone. -/
theorem row_kp {w W : World} {base g : Nat} {v : Value} {l : List ByteArray} (h : Kd.R Kd.string 9 w base (fun _ => True) v l) (hg : g < base) (k : Kp w W g none) : Kd.R Kd.string 9 W base (fun _ => True) v l :=
  Kd.R_mono (Kd.R_keep (Kd.R_tight rfl h) k.1 (fun b hb e => by have q := Kd.R_base h b hb.symm; omega)) (fun _ _ => trivial)
end Go.Proofs.Ytnmdpjbpbiempaa.P
