/- What is proved here: the pure statement of SepTells: what the program's functions of sep answer is what the reference's answer. Conditions: sizes within the form's reach. -/
import Derived.Test.YthflaiogollleaaStmtSepTells
import Derived.Test.YthflaiogollleaaSpec2
set_option linter.unusedVariables false
set_option linter.unusedSimpArgs false
namespace Go.Proofs.Ythflaiogollleaa.Pure
open Go.RowKit Go.Proofs.YthflaiogollleaaW.PrintWords Go.Proofs.YthflaiogollleaaW.PrintLast Go.Proofs.YthflaiogollleaaW.PrintMore Go.Proofs.YthflaiogollleaaEv Go.Proofs.YthflaiogollleaaMath Go.Proofs.Ythflaiogollleaa.P Go.Proofs.Ythflaiogollleaa.Spec

theorem tells_rest (a b : ByteArray) (l : List ByteArray) (ha : a.size ≤ 60) (hb : b.size ≤ 60) (hs : ∀ s ∈ l, s.size ≤ 60) (hl : l.length ≤ 30) (s p q : ByteArray) (m n : List ByteArray) (x : ByteArray) (e : Int) (hx : L p = L q) (hm : m = n) (hml : m.length ≤ 30) :
    Ev (fun k => withylaw05_SepTells.j0 k a b l x e x e p m q n s) true := by
  refine ev_step ?_
  simp only [withylaw05_SepTells.j0, L_toList]
  refine ev_bind (common_ev a b (by omega) (by omega)) (ev_bind (rcommon_ev a b (by omega) (by omega)) (ev_pos rfl ?_))
  refine ev_bind (span_ev l (fun s h => by have := hs s h; omega) (by omega)) (ev_bind (rspan_ev l (fun s h => by have := hs s h; omega) (by omega)) (ev_pos rfl ?_))
  refine ev_pos trivial (ev_pos trivial (ev_pos hx (ev_bind (words_ev m n (by omega)) (ev_pos (decide_eq_true hm) ?_))))
  refine ev_bind_now (between_eq _ _ _ _) ?_
  cases h : Op.bytesLess (L s) (L a)
  · refine ev_neg (by simp) (ev_pos (by simp [lt, h]) (ev_bind_now (between_eq _ _ _ _) (ev_pos (by simp [lt, h]) (ev_bind fixed_ev ev_some))))
  · refine ev_pos rfl (ev_pos (by simp [lt, h]) (ev_bind_now (between_eq _ _ _ _) (ev_pos (by simp [lt, h]) (ev_bind fixed_ev ev_some))))

theorem SepTells : withylaw05_SepTells.Pure := by
  intro a b l _ _ _
  have ma := mn_eq (a.size : Int) 60
  have mb := mn_eq (b.size : Int) 60
  have ha := cut60_size a
  have hb := cut60_size b
  have hl := cutAll_length l
  refine Ev.rounds ?_
  unfold withylaw05_SepTells.f
  rw [mn60, mn60]
  refine ev_pos (by omega) (ev_pos (by omega) (ev_pos (by omega) (ev_pos (by omega) ?_)))
  refine ev_bind (cut_ev l) (ev_bind (sleast_ev (cut60 a) (cut60 b) (by omega) (by omega)) (ev_bind (rleast_ev (cut60 a) (cut60 b) (by omega)) ?_))
  have h60 : ∀ s ∈ cutAll l, s.size ≤ 140737488351232 := fun s h => by have := cutAll_size h; omega
  refine ev_bind (strip_ev _ h60 (by omega)) (ev_bind (rstrip_ev _ h60 (by omega)) ?_)
  have hfin := fun s => tells_rest (cut60 a) (cut60 b) (cutAll l) (by omega) (by omega) (fun s h => cutAll_size h) hl s (stripped (cutAll l)).1 (stripped (cutAll l)).1 (stripped (cutAll l)).2 (stripped (cutAll l)).2 (parts (cut60 a) (cut60 b)).1 (parts (cut60 a) (cut60 b)).2 rfl rfl (by unfold stripped; simpa using hl)
  by_cases h : (cutAll l).length = 0
  · exact ev_neg (by omega) (hfin _)
  · exact ev_pos (by omega) (ev_pos (by omega) (hfin _))
end Go.Proofs.Ythflaiogollleaa.Pure
