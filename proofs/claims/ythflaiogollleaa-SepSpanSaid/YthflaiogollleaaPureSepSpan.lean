/- What is proved here: the pure statement of SepSpan: of more texts no more is common; of texts that rise it is what the first one and the last one have. Conditions: sizes within the form's reach. -/
import Derived.Test.YthflaiogollleaaStmtSepSpan
import Derived.Test.YthflaiogollleaaSpec2
set_option linter.unusedVariables false
set_option linter.unusedSimpArgs false
namespace Go.Proofs.Ythflaiogollleaa.Pure
open Go.RowKit Go.Proofs.YthflaiogollleaaW.PrintWords Go.Proofs.YthflaiogollleaaW.PrintLast Go.Proofs.YthflaiogollleaaW.PrintMore Go.Proofs.YthflaiogollleaaEv Go.Proofs.YthflaiogollleaaMath Go.Proofs.Ythflaiogollleaa.P Go.Proofs.Ythflaiogollleaa.Spec

/-- Do the texts rise up to place i? -/
def rises (l : List ByteArray) (i : Nat) : Prop := ∀ (j : Nat) (x y : ByteArray), j + 1 < i → l[j]? = some x → l[j + 1]? = some y → lt (L y) (L x) = false

theorem span_rest (x : ByteArray) (r : List ByteArray) (m : ByteArray) (hs : ∀ s ∈ x :: r, s.size ≤ 60) (hl : (x :: r).length ≤ 30) (hm : m.size ≤ 60) :
    ∀ (d i : Nat) (b : Bool), 1 ≤ i → i ≤ (x :: r).length → (x :: r).length - i = d → (b = true → rises (x :: r) i) →
    Ev (fun k => withylaw05_SepSpan.l0 k (x :: r) m ((x :: r) ++ [m]) (span ((x :: r).map L) : Int) b (i : Int)) true := by
  have hx := hs x List.mem_cons_self
  have hmap : ((x :: r) ++ [m]).map L = L x :: (r.map L ++ [L m]) := by simp
  have hspan : span ((x :: r).map L) = spanFrom (L x) (r.map L) := rfl
  intro d
  induction d with
  | zero =>
    intro i b h0 h1 hd hr
    refine ev_step ?_
    simp only [withylaw05_SepSpan.l0]
    rw [rdOf_zero]
    refine ev_neg (by omega) (ev_bind (span_ev _ (fun s h => ?_) (by simp; simp at hl; omega)) (ev_pos (by simp <;> omega) ?_))
    · rcases List.mem_append.1 h with h | h
      · have := hs s h; omega
      · rw [List.mem_singleton.1 h]; omega
    refine ev_bind (common_ev x m (by omega) (by omega)) (ev_pos ?_ ?_)
    · rw [hmap, mn_eq, hspan]
      show ((spanFrom (L x) (r.map L ++ [L m]) : Nat) : Int) = _
      rw [spanFrom_snoc]
      omega
    have hend : Ev (fun k => (sep_Common.f k x m).bind fun t259 => (sep_Common.f k m x).bind fun t261 => if t259 = t261 then ((withylaw05_fixed.f k).bind fun t262 => some t262) else none) true :=
      ev_bind (common_ev x m (by omega) (by omega)) (ev_bind (common_ev m x (by omega) (by omega)) (ev_pos (by rw [cp_comm]) (ev_bind fixed_ev ev_some)))
    cases b with
    | false => exact ev_neg (by simp) hend
    | true =>
      have hlast : r.length < (x :: r).length := by simp
      have e : wrap64 (((x :: r).length : Int) - 1) = ((r.length : Nat) : Int) := by rw [w64 (by omega) (by omega)]; simp
      rw [e, rdOf_nat _ (x :: r) r.length hlast]
      have hz := hs _ (List.getElem_mem hlast)
      refine ev_pos rfl (ev_pos (by omega) (ev_pos (by omega) (ev_bind (common_ev x _ (by omega) (by omega)) (ev_pos ?_ hend))))
      rw [hspan]
      have := spanFrom_rise (a := L x) (r.map L) (L (x :: r)[r.length]) (fun j u v hu hv => ?_) ?_
      · rw [this]
      · have hu' : ((x :: r).map L)[j]? = some u := by simpa using hu
        have hv' : ((x :: r).map L)[j + 1]? = some v := by simpa using hv
        rw [List.getElem?_map, Option.map_eq_some_iff] at hu' hv'
        obtain ⟨u', hu1, rfl⟩ := hu'
        obtain ⟨v', hv1, rfl⟩ := hv'
        have hlt := (List.getElem?_eq_some_iff.1 hv1).1
        exact hr rfl j u' v' (by omega) hu1 hv1
      · have e2 : L x :: r.map L = (x :: r).map L := rfl
        rw [e2, List.getLast?_eq_getElem?, List.length_map, List.getElem?_map, List.getElem?_eq_getElem (by simp)]
        simp
  | succ d ih =>
    intro i b h0 h1 hd hr
    have hi : i < (x :: r).length := by omega
    obtain ⟨j, rfl⟩ : ∃ j, i = j + 1 := ⟨i - 1, by omega⟩
    have hj : j < (x :: r).length := by omega
    have e : wrap64 (((j + 1 : Nat) : Int) - 1) = (j : Int) := by rw [w64 (by omega) (by omega)]; omega
    refine ev_step ?_
    simp only [withylaw05_SepSpan.l0, L_toList]
    rw [e, rdOf_nat _ (x :: r) j hj, rdOf_nat _ (x :: r) (j + 1) hi, w64_succ (by omega)]
    refine ev_pos (by omega) ?_
    cases b with
    | false => exact ev_neg (by simp) (ih (j + 1 + 1) false (by omega) (by omega) (by omega) (fun h => by cases h))
    | true =>
      refine ev_pos rfl (ev_pos (by omega) (ev_pos (by omega) (ev_pos (by omega) ?_)))
      refine ih (j + 1 + 1) _ (by omega) (by omega) (by omega) (fun hb => ?_)
      intro j' u v hlt hu hv
      rcases Nat.lt_or_ge (j' + 1) (j + 1) with h | h
      · exact hr rfl j' u v h hu hv
      · obtain rfl : j' = j := by omega
        rw [List.getElem?_eq_getElem hj] at hu
        rw [List.getElem?_eq_getElem hi] at hv
        injection hu with hu
        injection hv with hv
        subst hu; subst hv
        simpa using hb

theorem SepSpan : withylaw05_SepSpan.Pure := by
  intro l m _ _
  have mm := mn_eq (m.size : Int) 60
  have hm := cut60_size m
  have hl := cutAll_length l
  have hb : ∀ s ∈ cutAll l, s.size ≤ 140737488351232 := fun s h => by have := cutAll_size h; omega
  refine Ev.rounds ?_
  unfold withylaw05_SepSpan.f
  rw [mn60]
  refine ev_bind (cut_ev l) (ev_pos (by omega) (ev_pos (by omega) ?_))
  cases hc : cutAll l with
  | nil => exact ev_pos rfl (ev_bind (span_ev [] (fun s h => by cases h) (by simp)) (ev_pos rfl (ev_bind fixed_ev ev_some)))
  | cons x r =>
    rw [hc] at hl hb
    have hs : ∀ s ∈ x :: r, s.size ≤ 60 := fun s h => by rw [← hc] at h; exact cutAll_size h
    refine ev_neg (by simp <;> omega) ?_
    refine ev_bind_now rfl (ev_pos (by simp; simp at hl; omega) (ev_bind_now rfl (ev_pos (by simp; simp at hl; omega) ?_)))
    refine ev_bind (span_ev (x :: r) hb (by omega)) ?_
    rw [List.nil_append]
    exact span_rest x r (cut60 m) hs hl (by omega) _ 1 true (Nat.le_refl _) (by simp) rfl (fun _ j u v h => by omega)
end Go.Proofs.Ythflaiogollleaa.Pure
