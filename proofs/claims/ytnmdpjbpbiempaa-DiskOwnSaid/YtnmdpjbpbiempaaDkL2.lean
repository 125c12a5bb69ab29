/- What is proved here: what a disk with a limit is while calls are made. Conditions: as each theorem names them. -/
import Derived.Test.YtnmdpjbpbiempaaDkL
set_option linter.unusedVariables false
set_option linter.unusedSimpArgs false
namespace Go.Proofs.Ytnmdpjbpbiempaa.P
open Go.RowKit Go.Proofs.YtnmdpjbpbiempaaW.PrintWords Go.Proofs.YtnmdpjbpbiempaaW.PrintLast Go.Proofs.YtnmdpjbpbiempaaW.PrintMore
/-- A disk of pages of 128 bytes, a room of 4, a limit, and at most n pages pending. -/
structure InvL (n : Nat) (left : Int) (d : Dk) : Prop where
  p : d.p = 128
  room : d.room = 4
  left : d.left = left
  ok : d.Ok
  pl : d.pend.length ≤ n
theorem InvL.init (M : Nat → Prop) (k : Int) (h0 : 0 ≤ k) : InvL 0 k ((fromD 128 4 ⟨#[]⟩ M).limit k) := by
  have h := Inv.init 4 M (by decide) (by decide)
  exact ⟨rfl, rfl, by show max k 0 = k; omega, ⟨⟨h.ok.few.p0, h.ok.few.p1, h.ok.few.room, h.ok.few.now, h.ok.few.kept, h.ok.few.pend⟩, h.ok.kept, h.ok.now, h.ok.pend, h.ok.room2, h.ok.klen, h.ok.nlen⟩, h.pl⟩
theorem InvL.more {n : Nat} {left : Int} {d : Dk} (h : InvL n left d) : InvL (n + 1) left d := ⟨h.p, h.room, h.left, h.ok, Nat.le_succ_of_le h.pl⟩
theorem InvL.dead {n : Nat} {d : Dk} (h : InvL n 0 d) (i : Int) (s : ByteArray) : ((if d.left = 0 then 9 else 0) = (9 : Int) ∧ d.sync = d) ∧ d.writeE i s = 9 ∧ d.write i s = d := by
  have hl := h.left
  refine ⟨⟨if_pos hl, ?_⟩, ?_, ?_⟩
  · unfold Dk.sync; rw [if_pos hl]
  · unfold Dk.writeE; rw [if_pos hl]
  · unfold Dk.write; rw [if_pos hl]
theorem Dk.done_one (d : Dk) (h : 0 < d.left) (h2 : d.left < 1000) : d.done = { d with left := d.left - 1 } := by
  unfold Dk.done
  rw [if_pos h]
  have e : wrap64 (d.left - 1) = d.left - 1 := by unfold wrap64; omega
  rw [e]
theorem InvL.sync {n : Nat} {left : Int} {d : Dk} (h : InvL n left d) (h0 : 0 < left) (h1 : left < 1000) : ((if d.left = 0 then 9 else 0) = (0 : Int)) ∧ InvL (n + 1) (left - 1) d.sync := by
  have hl := h.left
  have e : d.sync = { d with kept := d.now, pend := [], left := d.left - 1 } := by
    unfold Dk.sync
    rw [if_neg (by omega)]
    exact Dk.done_one { d with kept := d.now, pend := [] } (by show 0 < d.left; omega) (by show d.left < _; omega)
  rw [e]
  have ho := h.ok
  exact ⟨if_neg (by omega), h.p, h.room, by show d.left - 1 = left - 1; omega, ⟨⟨ho.few.p0, ho.few.p1, ho.few.room, ho.few.now, ho.few.now, by show (0 : Nat) < _; decide⟩, ho.now, ho.now, fun x hx => (List.not_mem_nil hx).elim, ho.room2, ho.nlen, ho.nlen⟩, Nat.zero_le _⟩
theorem InvL.full {n : Nat} {left : Int} {d : Dk} (h : InvL n left d) (h0 : left ≠ 0) {i : Int} {s : ByteArray} (hi : 3 < i) (hs : s.size = 128) : d.writeE i s = 2 ∧ d.write i s = d := by
  have hl := h.left
  have hp := h.p
  have hr := h.room
  constructor
  · unfold Dk.writeE; rw [if_neg (by omega), if_neg (by omega), if_neg (by omega), if_pos (by omega)]
  · unfold Dk.write; rw [if_neg (by omega), if_neg (by omega), if_neg (by omega), if_pos (by omega)]
theorem InvL.write {n : Nat} {left : Int} {d : Dk} (h : InvL n left d) (hn : n < 100000) (hl0 : 0 < left) (hl1 : left < 1000) {i : Int} {s : ByteArray} (h0 : 0 ≤ i) (h1 : i ≤ 3) (hs : s.size = 128) : d.writeE i s = 0 ∧ InvL (n + 1) (left - 1) (d.write i s) := by
  have hp := h.p
  have hr := h.room
  have hl := h.left
  have ho := h.ok
  have hpl := h.pl
  have e1 : d.writeE i s = 0 := by unfold Dk.writeE; rw [if_neg (by omega), if_neg (by omega), if_neg (by omega), if_neg (by omega)]
  have e2 : d.write i s = { d with now := putL 128 d.now i s, pend := d.pend ++ [⟨i, s⟩], left := d.left - 1 } := by
    unfold Dk.write
    rw [if_neg (by omega), if_neg (by omega), if_neg (by omega), if_neg (by omega), hp]
    have e3 := Dk.done_one { d with now := putL 128 d.now i s, pend := d.pend ++ [(⟨i, s⟩ : S79)] } (by show 0 < d.left; omega) (by show d.left < _; omega)
    rw [hp] at e3
    exact e3
  rw [e2]
  refine ⟨e1, hp, hr, by show d.left - 1 = left - 1; omega, ⟨⟨ho.few.p0, ho.few.p1, ho.few.room, ?_, ho.few.kept, ?_⟩, ho.kept, ?_, ?_, ho.room2, ho.klen, ?_⟩, ?_⟩
  · show (putL 128 d.now i s).length < _
    rw [putL_len]; have := ho.nlen; have := ho.room2; omega
  · show (d.pend ++ [(⟨i, s⟩ : S79)]).length < _
    rw [List.length_append, List.length_singleton]; omega
  · show ∀ x ∈ putL 128 d.now i s, (x.size : Int) = d.p
    rw [hp]; exact putL_sizes (by omega) (fun x hx => by rw [← hp]; exact ho.now x hx) (by omega)
  · intro x hx
    rcases List.mem_append.1 hx with hx | hx
    · exact ho.pend x hx
    · obtain rfl := List.mem_singleton.1 hx
      exact ⟨by show (s.size : Int) = d.p; omega, h0, by show i < d.room; omega⟩
  · show ((putL 128 d.now i s).length : Int) ≤ d.room
    rw [putL_len]; have := ho.nlen; omega
  · show (d.pend ++ [(⟨i, s⟩ : S79)]).length ≤ n + 1
    rw [List.length_append, List.length_singleton]; omega
/-- The last three calls: a limit of one, a sync, and one that is refused. -/
theorem InvL.last {n : Nat} {left : Int} {d : Dk} (h : InvL n left d) : (if (d.limit 1).left = 0 then 9 else 0) = (0 : Int) ∧ (if (d.limit 1).sync.left = 0 then 9 else 0) = (9 : Int) := by
  have h2 : InvL n 1 (d.limit 1) := ⟨h.p, h.room, rfl, ⟨⟨h.ok.few.p0, h.ok.few.p1, h.ok.few.room, h.ok.few.now, h.ok.few.kept, h.ok.few.pend⟩, h.ok.kept, h.ok.now, h.ok.pend, h.ok.room2, h.ok.klen, h.ok.nlen⟩, h.pl⟩
  have h3 := h2.sync (by decide) (by decide)
  exact ⟨h3.1, if_pos (by have := h3.2.left; omega)⟩
/-- What a row reads outlasts a write. -/
theorem row_mv {w W : World} {base g : Nat} {own own' : Option Nat} {v : Value} {l : List ByteArray} (h : Kd.R Kd.string 9 w base (fun _ => True) v l) (hg : g < base) (ho : ∀ b, own = some b → b < base) (m : Mv w W g own own') : Kd.R Kd.string 9 W base (fun _ => True) v l :=
  Kd.R_mono (Kd.R_step (Kd.R_tight rfl h) (fun k hk hlt => m.1.1.2 k hlt (by have q := Kd.R_base h k hk.symm; omega) (fun e => by have q := Kd.R_base h k hk.symm; have q2 := ho k e.symm; omega))) (fun _ _ => trivial)
end Go.Proofs.Ytnmdpjbpbiempaa.P
