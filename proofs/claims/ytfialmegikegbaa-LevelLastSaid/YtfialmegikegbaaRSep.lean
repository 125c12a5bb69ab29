/- What is proved here: what the printed functions of sep and of its reference answer, in plain words on lists of bytes. Conditions: sizes within the form's reach. -/
import Derived.Test.YtfialmegikegbaaPS
import Derived.Test.YtfialmegikegbaaSep
import Derived.Test.YtfialmegikegbaaEv
import Derived.Test.YtfialmegikegbaaMath
set_option linter.unusedVariables false
set_option linter.unusedSimpArgs false
namespace Go.Proofs.Ytfialmegikegbaa.Spec
open Go.RowKit Go.Proofs.YtfialmegikegbaaW.PrintWords Go.Proofs.YtfialmegikegbaaW.PrintLast Go.Proofs.YtfialmegikegbaaW.PrintMore Go.Proofs.YtfialmegikegbaaEv Go.Proofs.YtfialmegikegbaaMath Go.Proofs.Ytfialmegikegbaa.P
theorem rspan_inner (x : ByteArray) (r : List ByteArray) (n : Nat) (hn : n < x.size) (hl : (x :: r).length ≤ 8796093022207)
    (hpre : ∀ s ∈ x :: r, n ≤ cp (L x) (L s)) (hnext : n + 1 ≤ span ((x :: r).map L) → Ev (fun k => withyref05_Span.l0 k (x :: r) ((n + 1 : Nat) : Int)) (span ((x :: r).map L) : Int)) (hn2 : n ≤ 140737488351232) :
    ∀ (d i : Nat), i ≤ (x :: r).length → (x :: r).length - i = d → (∀ s ∈ (x :: r).take i, n + 1 ≤ cp (L x) (L s)) → Ev (fun k => withyref05_Span.l1 k (x :: r) (n : Int) (i : Int)) (span ((x :: r).map L) : Int) := by
  have hnx : n < (L x).length := by rw [L_length]; exact hn
  have hspan : span ((x :: r).map L) = spanFrom (L x) (r.map L) := rfl
  intro d
  induction d with
  | zero =>
    intro i h1 hd hall
    refine ev_step ?_
    simp only [withyref05_Span.l1]
    refine ev_neg (by omega) ?_
    rw [w64_succ (by omega)]
    refine hnext ?_
    rw [hspan]
    refine (spanFrom_ge_iff _ _ _).2 ⟨by omega, fun s hs => ?_⟩
    obtain ⟨t, ht, rfl⟩ := List.mem_map.1 hs
    rw [List.take_of_length_le (by omega)] at hall
    exact hall t (List.mem_cons_of_mem _ ht)
  | succ d ih =>
    intro i h1 hd hall
    have hi : i < (x :: r).length := by omega
    have hs := hpre _ (List.getElem_mem hi)
    have hends : ∀ m, cp (L x) (L (x :: r)[i]) = m → m = n → span ((x :: r).map L) = n := by
      intro m hm e
      subst e
      rw [hspan]
      have hi0 : i ≠ 0 := by
        rintro rfl
        rw [List.getElem_cons_zero, cp_self] at hm
        omega
      refine span_eq (by omega) (fun s hs' => ?_) (.inr ⟨L (x :: r)[i], ?_, by omega⟩)
      · obtain ⟨t, ht, rfl⟩ := List.mem_map.1 hs'
        exact hpre t (List.mem_cons_of_mem _ ht)
      · obtain ⟨j, rfl⟩ : ∃ j, i = j + 1 := ⟨i - 1, by omega⟩
        rw [List.getElem_cons_succ]
        exact List.mem_map_of_mem (List.getElem_mem _)
    refine ev_step ?_
    simp only [withyref05_Span.l1]
    rw [rdOf_nat _ (x :: r) i hi, rdOf_zero]
    refine ev_pos (by omega) (ev_pos (by omega) ?_)
    by_cases h : n < (x :: r)[i].size
    · have hni : n < (L (x :: r)[i]).length := by rw [L_length]; exact h
      refine ev_neg (by omega) (ev_pos (by omega) (ev_pos (by omega) (ev_pos (by simp <;> omega) (ev_pos (by omega) ?_))))
      by_cases he : (L (x :: r)[i])[n]? = (L x)[n]?
      · refine ev_pos ((bt_eq_iff _ _ n n hni hnx).2 he) ?_
        rw [w64_succ (by omega)]
        refine ih (i + 1) (by omega) (by omega) ?_
        intro s hs'
        rw [List.take_succ_eq_append_getElem hi] at hs'
        rcases List.mem_append.1 hs' with h' | h'
        · exact hall s h'
        · rw [List.mem_singleton.1 h']
          have h5 := (cp_ge_iff n _ _).1 hs
          exact (cp_ge_iff (n + 1) _ _).2 ⟨by omega, by omega, by rw [List.take_add_one, List.take_add_one, h5.2.2, he]⟩
      · refine ev_neg (fun h' => he ((bt_eq_iff _ _ n n hni hnx).1 h')) (ev_some' ?_)
        rw [hends _ rfl (by
          rcases Nat.lt_or_ge n (cp (L x) (L (x :: r)[i])) with h' | h'
          · exact absurd (cp_get_eq h').symm he
          · omega)]
    · refine ev_pos (by omega) (ev_some' ?_)
      have := cp_le_right (L x) (L (x :: r)[i])
      rw [L_length] at this
      rw [hends _ rfl (by omega)]
theorem rspan_loop (x : ByteArray) (r : List ByteArray) (hx : x.size ≤ 140737488351232) (hl : (x :: r).length ≤ 8796093022207) : ∀ (d n : Nat), n ≤ span ((x :: r).map L) → span ((x :: r).map L) - n = d → Ev (fun k => withyref05_Span.l0 k (x :: r) (n : Int)) (span ((x :: r).map L) : Int) := by
  have hspan : span ((x :: r).map L) = spanFrom (L x) (r.map L) := rfl
  have hle := spanFrom_le (L x) (r.map L)
  rw [L_length, ← hspan] at hle
  have hpre : ∀ n, n ≤ span ((x :: r).map L) → ∀ s ∈ x :: r, n ≤ cp (L x) (L s) := by
    intro n hn s hs
    rcases List.mem_cons.1 hs with rfl | hs
    · rw [cp_self, L_length]; omega
    · exact ((spanFrom_ge_iff (L x) n (r.map L)).1 (hspan ▸ hn)).2 _ (List.mem_map_of_mem hs)
  have hj : ∀ (n : Nat), n ≤ 140737488351232 → n ≤ span ((x :: r).map L) → (n + 1 ≤ span ((x :: r).map L) → Ev (fun k => withyref05_Span.l0 k (x :: r) ((n + 1 : Nat) : Int)) (span ((x :: r).map L) : Int)) → Ev (fun k => withyref05_Span.l0 k (x :: r) (n : Int)) (span ((x :: r).map L) : Int) := by
    intro n hb hn hnext
    refine ev_step ?_
    simp only [withyref05_Span.l0]
    refine ev_pos (by simp <;> omega) (ev_pos (by simp <;> omega) ?_)
    rw [rdOf_zero]
    refine ev_step ?_
    simp only [withyref05_Span.j1]
    by_cases h : n < x.size
    · refine ev_pos (decide_eq_true (by omega)) ?_
      exact rspan_inner x r n h hl (hpre n hn) hnext hb _ 0 (Nat.zero_le _) rfl (fun s hs => by simp at hs)
    · refine ev_neg (by simpa using h) (ev_some' (by omega))
  intro d
  induction d with
  | zero => intro n hn hd; exact hj n (by omega) hn (fun h => by omega)
  | succ d ih => intro n hn hd; exact hj n (by omega) hn (fun h => ih (n + 1) h (by omega))
theorem rspan_ev (l : List ByteArray) (hs : ∀ s ∈ l, s.size ≤ 140737488351232) (hl : l.length ≤ 8796093022207) : Ev (fun k => withyref05_Span.f k l) (span (l.map L) : Int) := by
  unfold withyref05_Span.f
  cases l with
  | nil =>
    refine ev_step ?_
    simp only [withyref05_Span.l0]
    refine ev_neg (by simp) (ev_step ?_)
    simp only [withyref05_Span.j1]
    exact ev_neg (by simp) (ev_some' rfl)
  | cons x r => exact rspan_loop x r (hs x (List.mem_cons_self)) hl _ 0 (Nat.zero_le _) rfl
theorem rstrip_loop (x : List ByteArray) (n : Nat) (hl : x.length ≤ 8796093022207) (hn : ∀ s ∈ x, n ≤ s.size) : ∀ (d i : Nat) (acc : List ByteArray) (p : ByteArray), i ≤ x.length → acc.length = i → x.length - i = d →
    Ev (fun k => withyref05_Strip.l0 k x (n : Int) acc p (i : Int)) ((x.drop i).foldl (fun _ s => s.extract 0 n) p, acc ++ (x.drop i).map (fun s => s.extract n s.size)) := by
  intro d
  induction d with
  | zero =>
    intro i acc p h1 ha hd
    refine ev_step ?_
    simp only [withyref05_Strip.l0]
    refine ev_neg (by omega) ?_
    rw [List.drop_of_length_le (by omega), List.map_nil, List.append_nil]
    exact ev_some
  | succ d ih =>
    intro i acc p h1 ha hd
    have hi : i < x.length := by omega
    have := hn x[i] (List.getElem_mem hi)
    refine ev_step ?_
    simp only [withyref05_Strip.l0]
    rw [rdOf_nat _ x i hi]
    refine ev_pos (by omega) (ev_pos (by omega) (ev_pos (by omega) (ev_pos (by omega) (ev_pos (by omega) ?_))))
    rw [w64_succ (by omega)]
    refine ev_eq (ih (i + 1) _ _ (by omega) (by simp <;> omega) (by omega)) ?_
    rw [List.drop_eq_getElem_cons hi, List.map_cons, List.append_assoc, Int.toNat_natCast, List.foldl_cons]
    rfl
theorem foldl_last (n : Nat) (b : List UInt8) : ∀ (l : List ByteArray) (p : ByteArray), L p = b → (∀ s ∈ l, (L s).take n = b) → L (l.foldl (fun _ s => s.extract 0 n) p) = b
  | [], p, h, _ => h
  | s :: l, p, _, h => by
    rw [List.foldl_cons]
    exact foldl_last n b l _ (by rw [L_to]; exact h s (List.mem_cons_self)) (fun t ht => h t (List.mem_cons_of_mem _ ht))
theorem rstrip_ev (l : List ByteArray) (hs : ∀ s ∈ l, s.size ≤ 140737488351232) (hl : l.length ≤ 8796093022207) : Ev (fun k => withyref05_Strip.f k l) (stripped l) := by
  unfold withyref05_Strip.f
  refine ev_bind (rspan_ev l hs hl) ?_
  refine ev_eq (rstrip_loop l (span (l.map L)) hl (fun s h => span_le_size h) _ 0 [] _ (Nat.zero_le _) rfl rfl) ?_
  rw [List.drop_zero, List.nil_append]
  unfold stripped
  refine Prod.ext ?_ rfl
  cases l with
  | nil => rfl
  | cons x r =>
    refine L_inj ?_
    rw [List.foldl_cons]
    refine foldl_last _ _ r _ rfl (fun s hs' => ?_)
    rw [L_to]
    exact (span_all (l := (x :: r).map L) (Nat.le_refl _) (a := L x) rfl (L s) (List.mem_map_of_mem (List.mem_cons_of_mem _ hs'))).2
end Go.Proofs.Ytfialmegikegbaa.Spec
