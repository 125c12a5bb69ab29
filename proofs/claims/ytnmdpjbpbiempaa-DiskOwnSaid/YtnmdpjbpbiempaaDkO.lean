/- What is proved here: rows that stand beside a disk, and their stores. Conditions: as each theorem names them. -/
import Derived.Test.YtnmdpjbpbiempaaDkL
set_option linter.unusedVariables false
set_option linter.unusedSimpArgs false
namespace Go.Proofs.Ytnmdpjbpbiempaa.P
open Go.RowKit Go.Proofs.YtnmdpjbpbiempaaW.PrintWords Go.Proofs.YtnmdpjbpbiempaaW.PrintLast Go.Proofs.YtnmdpjbpbiempaaW.PrintMore
def Dk.withM (d : Dk) (M : Nat → Prop) : Dk := { d with M := M }
theorem withM_reads (d : Dk) (M : Nat → Prop) : (d.withM M).reads = d.reads := rfl
theorem withM_now (d : Dk) (M : Nat → Prop) : (d.withM M).now = d.now := rfl
theorem withM_M (d : Dk) (M : Nat → Prop) (P : Nat → Prop) (h : ∀ k, M k → P k) : ∀ k, (d.withM M).M k → P k := h
theorem St.later {w5 W W' : World} {g : Nat} {own : Option Nat} {d : Dk} (h : St w5 W g own d) (hb : Below W.heap.size W W') (M' : Nat → Prop) (hm : ∀ k, k < W.heap.size → M' k) (hf : ∀ k, W'.heap.size ≤ k → M' k) : St w5 W' g own (d.withM M') := ⟨h.dk.later hb M' hm hf, h.ow, h.kp.trans (Kp.of_below hb rfl g none) (.inl rfl)⟩
theorem St.far {w5 W : World} {g ga : Nat} {own : Option Nat} {d : Dk} (h : St w5 W g own d) (hM : ∀ k, d.M k → k ≠ ga) (hne : ga ≠ g) (h5 : w5.heap.size ≤ ga) (j : Nat) (u : Value) : St w5 (W.setCell ⟨ga, j, none⟩ u) g own d :=
  ⟨h.dk.step (by simp [World.setCell]) (fun k hk ho => Below.heap_setCell _ _ _ k (by
    rcases ho with rfl | ho
    · exact Ne.symm hne
    · exact hM k ho)), h.ow, kp_far h.kp h5 u⟩
theorem row_far {W : World} {base ga : Nat} {v : Value} {l : List ByteArray} (h : Kd.R Kd.string 9 W base (fun _ => True) v l) (hg : ga < base) (j : Nat) (u : Value) : Kd.R Kd.string 9 (W.setCell ⟨ga, j, none⟩ u) base (fun _ => True) v l :=
  Kd.R_mono (Kd.R_far (p := ⟨ga, j, none⟩) (Kd.R_tight rfl h) (fun k hk e => by have q := Kd.R_base h k hk.symm; have e' : k = ga := e; omega) u) (fun _ _ => trivial)
theorem Inv.reM {room : Int} {n : Nat} {d : Dk} (h : Inv room n d) (M : Nat → Prop) : Inv room n (d.withM M) :=
  ⟨h.p, h.room, h.left, ⟨⟨h.ok.few.p0, h.ok.few.p1, h.ok.few.room, h.ok.few.now, h.ok.few.kept, h.ok.few.pend⟩, h.ok.kept, h.ok.now, h.ok.pend, h.ok.room2, h.ok.klen, h.ok.nlen⟩, h.pl⟩
/-- A row of the call's own that has an element: where it stands, and a store into it. -/
theorem row_put {W : World} {base n c : Nat} {A : Option Addr} {l : List ByteArray} (h : Kd.R Kd.string 9 W base (fun _ => True) (.slice A n c) l) (i : Nat) (hi : i < l.length) : ∃ ga, A = some ⟨ga, 0, none⟩ ∧ base ≤ ga ∧ ga < W.heap.size ∧ W.cell? ⟨ga, i, none⟩ = some (.string (rdOf ByteArray.empty l i)) ∧ W.frozen? ⟨ga, i, none⟩ = false ∧ ∀ x, Kd.R Kd.string 9 (W.setCell ⟨ga, i, none⟩ (.string x)) base (fun _ => True) (.slice A n c) (l.set i x) := by
  have hb := Kd.R_base h
  have hl := Kd.R_lt h
  obtain ⟨inner, h1, h2⟩ := Kd.R_own h
  rcases h2 with h2 | ⟨g, cap, cur, e, hg, hh, r⟩
  · obtain ⟨A', c', e', -⟩ := Kd.R_reads h
    injection e' with _ e2 _
    obtain ⟨e3, -⟩ := h2
    injection e3 with _ e4 _
    omega
  · injection e with e1 e2 e3
    subst e1
    subst e2
    subst e3
    have k1 := Kd.R_cell (enc := Value.string) ByteArray.empty h (i : Int) (by omega) (by omega)
    rw [Int.toNat_natCast] at k1
    refine ⟨g, rfl, hg, hl g rfl, k1.1, k1.2, fun x => ?_⟩
    have k2 := (Kd.R_put (enc := Value.string) h (i : Int) x).1
    rw [Int.toNat_natCast] at k2
    exact k2
end Go.Proofs.Ytnmdpjbpbiempaa.P
