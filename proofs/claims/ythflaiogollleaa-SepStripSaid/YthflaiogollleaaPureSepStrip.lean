/- What is proved here: the pure statement of SepStrip: what is stripped, put ahead again, is the texts, in their order. Conditions: sizes within the form's reach. -/
import Derived.Test.YthflaiogollleaaStmtSepStrip
import Derived.Test.YthflaiogollleaaSpec2
set_option linter.unusedVariables false
set_option linter.unusedSimpArgs false
namespace Go.Proofs.Ythflaiogollleaa.Pure
open Go.RowKit Go.Proofs.YthflaiogollleaaW.PrintWords Go.Proofs.YthflaiogollleaaW.PrintLast Go.Proofs.YthflaiogollleaaW.PrintMore Go.Proofs.YthflaiogollleaaEv Go.Proofs.YthflaiogollleaaMath Go.Proofs.Ythflaiogollleaa.P Go.Proofs.Ythflaiogollleaa.Spec

theorem stripped_length (l : List ByteArray) : (stripped l).2.length = l.length := by unfold stripped; simp
theorem stripped_get (l : List ByteArray) (i : Nat) (h : i < l.length) (h' : i < (stripped l).2.length) : L (stripped l).2[i] = (L l[i]).drop (span (l.map L)) := by
  show L ((l.map (fun s => s.extract (span (l.map L)) s.size))[i]'(by simpa using h)) = _
  rw [List.getElem_map, L_from]
theorem stripped_size {l : List ByteArray} (hs : ∀ s ∈ l, s.size ≤ 60) : ∀ s ∈ (stripped l).2, s.size ≤ 60 := by
  intro s h
  unfold stripped at h
  obtain ⟨t, ht, rfl⟩ := List.mem_map.1 h
  have := hs t ht
  rw [size_extract]
  omega
/-- Put ahead again. -/
theorem stripped_back (l : List ByteArray) (i : Nat) (h : i < l.length) : L (stripped l).1 ++ (L l[i]).drop (span (l.map L)) = L l[i] ∧ (stripped l).1.size = span (l.map L) := by
  cases l with
  | nil => simp at h
  | cons x r =>
    have hall := span_all (l := (x :: r).map L) (Nat.le_refl _) (a := L x) rfl
    have h1 := hall _ (List.mem_map_of_mem (List.getElem_mem h))
    have h2 := hall (L x) (List.mem_map_of_mem List.mem_cons_self)
    have e : (stripped (x :: r)).1 = x.extract 0 (span ((x :: r).map L)) := rfl
    constructor
    · rw [e, L_to, ← h1.2, List.take_append_drop]
    · have := L_length x
      rw [e, size_extract]
      omega
theorem strip_size_one (l : List ByteArray) : (stripped l).1.size = span (l.map L) := by
  cases l with
  | nil => rfl
  | cons x r => exact (stripped_back (x :: r) 0 (by simp)).2
theorem strip_order (l : List ByteArray) (i j : Nat) (hi : i < l.length) (hj : j < l.length) : Op.bytesLess ((L l[i]).drop (span (l.map L))) ((L l[j]).drop (span (l.map L))) = Op.bytesLess (L l[i]) (L l[j]) := by
  have h1 := (stripped_back l i hi).1
  have h2 := (stripped_back l j hj).1
  have := lt_append_left (L (stripped l).1) ((L l[i]).drop (span (l.map L))) ((L l[j]).drop (span (l.map L)))
  rw [h1, h2] at this
  exact this.symm

theorem strip_rest (l : List ByteArray) (hs : ∀ s ∈ l, s.size ≤ 60) (hl : l.length ≤ 30) : ∀ (d i : Nat), i ≤ l.length → l.length - i = d → Ev (fun k => withylaw05_SepStrip.l0 k l (stripped l).1 (stripped l).2 (i : Int)) true := by
  have hsp : ∀ (n : Nat) (h : n < l.length), span (l.map L) ≤ 60 := fun n h => by
    have := span_le_size (List.getElem_mem h)
    have := hs _ (List.getElem_mem h)
    omega
  have hlen := stripped_length l
  intro d
  induction d with
  | zero =>
    intro i h1 hd
    refine ev_step ?_
    simp only [withylaw05_SepStrip.l0]
    refine ev_neg (by omega) (ev_bind (span_ev _ (fun s h => by have := stripped_size hs s h; omega) (by omega)) (ev_pos ?_ (ev_bind fixed_ev ev_some)))
    have h := span_strip (l.map L)
    rw [List.map_map] at h
    have e : (stripped l).2.map L = l.map ((fun x => List.drop (span (l.map L)) x) ∘ L) := by
      unfold stripped
      rw [List.map_map]
      exact List.map_congr_left (fun s _ => by simp only [Function.comp]; rw [L_from])
    rw [e, h]
    rfl
  | succ d ih =>
    intro i h1 hd
    have hi : i < l.length := by omega
    have hi' : i < (stripped l).2.length := by omega
    have h60 := stripped_size hs _ (List.getElem_mem hi')
    have hsi := hsp i hi
    have hb := stripped_back l i hi
    refine ev_step ?_
    simp only [withylaw05_SepStrip.l0, L_toList]
    rw [rdOf_nat _ _ i hi', rdOf_nat _ l i hi, stripped_get l i hi hi']
    refine ev_pos (by omega) (ev_pos (by omega) (ev_pos (by omega) (ev_pos (by omega) (ev_pos (by rw [L_append, stripped_get l i hi hi']; exact hb.1) ?_))))
    have hgo : Ev (fun k => withylaw05_SepStrip.l0 k l (stripped l).1 (stripped l).2 (wrap64 ((i : Int) + 1))) true := by
      rw [w64_succ (by omega)]
      exact ih (i + 1) (by omega) (by omega)
    by_cases h0 : i = 0
    · exact ev_neg (by omega) hgo
    · obtain ⟨j, rfl⟩ : ∃ j, i = j + 1 := ⟨i - 1, by omega⟩
      have hj : j < l.length := by omega
      have hj' : j < (stripped l).2.length := by omega
      have e : wrap64 (((j + 1 : Nat) : Int) - 1) = (j : Int) := by rw [w64 (by omega) (by omega)]; omega
      rw [e, rdOf_nat _ _ j hj', rdOf_nat _ l j hj, stripped_get l j hj hj']
      refine ev_pos (by omega) (ev_pos (by omega) (ev_pos (by omega) (ev_pos (by omega) (ev_neg ?_ hgo))))
      rw [strip_order l j (j + 1) hj hi]
      simp

theorem SepStrip : withylaw05_SepStrip.Pure := by
  intro l _
  have hl := cutAll_length l
  have h60 : ∀ s ∈ cutAll l, s.size ≤ 60 := fun s h => cutAll_size h
  have hb : ∀ s ∈ cutAll l, s.size ≤ 140737488351232 := fun s h => by have := cutAll_size h; omega
  refine Ev.rounds ?_
  unfold withylaw05_SepStrip.f
  refine ev_bind (cut_ev l) (ev_bind (strip_ev _ hb (by omega)) ?_)
  have hlen := stripped_length (cutAll l)
  have hone := strip_size_one (cutAll l)
  refine ev_pos (by omega) (ev_bind (span_ev _ hb (by omega)) ?_)
  rw [hone]
  refine ev_step ?_
  simp only [withylaw05_SepStrip.j0]
  exact ev_neg (by simp) (strip_rest (cutAll l) h60 hl _ 0 (Nat.zero_le _) rfl)
end Go.Proofs.Ythflaiogollleaa.Pure
