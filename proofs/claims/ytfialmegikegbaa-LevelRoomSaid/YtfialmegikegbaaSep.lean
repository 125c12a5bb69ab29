/- What is proved here: what the printed functions of sep and of its reference answer, in plain words on lists of bytes. Conditions: sizes within the form's reach. -/
import Derived.Test.YtfialmegikegbaaPF
import Derived.Test.YtfialmegikegbaaEv
import Derived.Test.YtfialmegikegbaaMath
set_option linter.unusedVariables false
set_option linter.unusedSimpArgs false
namespace Go.Proofs.Ytfialmegikegbaa.Spec
open Go.RowKit Go.Proofs.YtfialmegikegbaaW.PrintWords Go.Proofs.YtfialmegikegbaaW.PrintLast Go.Proofs.YtfialmegikegbaaW.PrintMore Go.Proofs.YtfialmegikegbaaEv Go.Proofs.YtfialmegikegbaaMath Go.Proofs.Ytfialmegikegbaa.P
theorem not_true_of {b : Bool} (h : b = false) : ¬ b = true := by rw [h]; exact Bool.false_ne_true
theorem shared_loop (a b : ByteArray) (ha : a.size ≤ 140737488351232) (hb : b.size ≤ 140737488351232) : ∀ (d i : Nat), i ≤ a.size → i ≤ b.size → min a.size b.size - i = d → (∀ j, j < i → (L a)[j]? = (L b)[j]?) →
    Ev (fun k => sep_shared_byte.l0 k (bytesOf a) (bytesOf b) (i : Int)) (cp (L a) (L b) : Int) := by
  intro d
  induction d with
  | zero =>
    intro i h1 h2 hd hj
    refine ev_step ?_
    simp only [sep_shared_byte.l0, bytesOf_length, mn_eq]
    refine ev_neg (by omega) (ev_some' ?_)
    rw [cp_of_get i (L a) (L b) (by rw [L_length]; exact h1) (by rw [L_length]; exact h2) hj (by rw [L_length, L_length]; omega)]
  | succ d ih =>
    intro i h1 h2 hd hj
    have hla : i < (L a).length := by rw [L_length]; omega
    have hlb : i < (L b).length := by rw [L_length]; omega
    refine ev_step ?_
    simp only [sep_shared_byte.l0, bytesOf_length, mn_eq, rd_bytesOf]
    refine ev_pos (by omega) (ev_pos (by omega) (ev_pos (by omega) (ev_pos (by omega) ?_)))
    by_cases he : (L a)[i]? = (L b)[i]?
    · refine ev_pos ((bt_eq_iff a b i i hla hlb).2 he) ?_
      rw [w64_succ (by omega)]
      exact ih (i + 1) (by omega) (by omega) (by omega) (fun j hj' => by
        rcases Nat.lt_or_ge j i with h | h
        · exact hj j h
        · obtain rfl : j = i := by omega
          exact he)
    · refine ev_neg (fun h => he ((bt_eq_iff a b i i hla hlb).1 h)) (ev_some' ?_)
      rw [cp_of_get i (L a) (L b) (by omega) (by omega) hj (.inr (.inr he))]
theorem common_ev (a b : ByteArray) (ha : a.size ≤ 140737488351232) (hb : b.size ≤ 140737488351232) : Ev (fun k => sep_Common.f k a b) (cp (L a) (L b) : Int) := by
  unfold sep_Common.f sep_shared_byte.f
  exact ev_pos (by omega) (ev_pos (by omega) (shared_loop a b ha hb _ 0 (Nat.zero_le _) (Nat.zero_le _) rfl (fun j hj => absurd hj (Nat.not_lt_zero _))))
theorem least_loop (l : List Int) (hl : l.length ≤ 140737488351232) : ∀ (d i : Nat) (n : Int), i ≤ l.length → l.length - i = d → Ev (fun k => sep_least.l0 k n l (l.length : Int) (i : Int)) ((l.drop i).foldl min n) := by
  intro d
  induction d with
  | zero =>
    intro i n h1 hd
    refine ev_step ?_
    simp only [sep_least.l0]
    refine ev_neg (by omega) (ev_some' ?_)
    rw [List.drop_of_length_le (by omega)]
    rfl
  | succ d ih =>
    intro i n h1 hd
    have hi : i < l.length := by omega
    refine ev_step ?_
    simp only [sep_least.l0]
    refine ev_pos (by omega) (ev_pos (by omega) (ev_pos (by omega) ?_))
    rw [w64_succ (by omega), rd_nat l i hi, mn_eq]
    refine ev_eq (ih (i + 1) _ (by omega) (by omega)) ?_
    rw [List.drop_eq_getElem_cons hi, List.foldl_cons]
theorem least_ev (n : Int) (l : List Int) (hl : l.length ≤ 140737488351232) : Ev (fun k => sep_least.f k n l) (l.foldl min n) := by
  unfold sep_least.f
  exact least_loop l hl _ 0 n (Nat.zero_le _) rfl
theorem foldl_min_cast : ∀ (l : List Nat) (n : Nat), (l.map (fun x : Nat => (x : Int))).foldl min (n : Int) = ((l.foldl min n : Nat) : Int)
  | [], n => rfl
  | x :: l, n => by
    rw [List.map_cons, List.foldl_cons, List.foldl_cons, ← foldl_min_cast l (min n x)]
    congr 1
    omega
theorem foldl_cp (a : List UInt8) : ∀ (r : List (List UInt8)) (n : Nat), n ≤ a.length → (r.map (cp a)).foldl min n = min n (spanFrom a r)
  | [], n, h => by simp only [List.map_nil, List.foldl_nil, spanFrom]; omega
  | s :: r, n, h => by
    rw [List.map_cons, List.foldl_cons, foldl_cp a r _ (by omega)]
    simp only [spanFrom]
    omega
theorem span_loop (x : ByteArray) (r : List ByteArray) (hx : x.size ≤ 140737488351232) (hr : ∀ s ∈ r, s.size ≤ 140737488351232) (hl : r.length ≤ 8796093022207) : ∀ (d i : Nat) (acc : List Nat), i ≤ r.length → acc.length = i → r.length - i = d →
    Ev (fun k => sep_Span.l0 k (x :: r) (acc.map (fun n : Nat => (n : Int))) r (r.length : Int) (i : Int)) (((acc ++ (r.drop i).map (fun s => cp (L x) (L s))).foldl min x.size : Nat) : Int) := by
  intro d
  induction d with
  | zero =>
    intro i acc h1 ha hd
    refine ev_step ?_
    simp only [sep_Span.l0, rdOf_zero]
    refine ev_neg (by omega) (ev_pos (by simp <;> omega) (ev_bind (least_ev _ _ (by simp <;> omega)) (ev_some' ?_)))
    rw [foldl_min_cast, List.drop_of_length_le (by omega)]
    simp
  | succ d ih =>
    intro i acc h1 ha hd
    have hi : i < r.length := by omega
    refine ev_step ?_
    simp only [sep_Span.l0, rdOf_zero]
    refine ev_pos (by omega) (ev_pos (by omega) (ev_pos (by omega) (ev_pos (by simp <;> omega) ?_)))
    rw [rdOf_nat _ r i hi]
    refine ev_bind (common_ev x r[i] hx (hr _ (List.getElem_mem hi))) (ev_pos (by simp <;> omega) ?_)
    rw [w64_succ (by omega)]
    have := ih (i + 1) (acc ++ [cp (L x) (L r[i])]) (by omega) (by simp <;> omega) (by omega)
    rw [List.map_append] at this
    refine ev_eq this ?_
    rw [List.drop_eq_getElem_cons hi, List.map_cons, List.append_assoc]
    rfl
theorem span_ev (l : List ByteArray) (hs : ∀ s ∈ l, s.size ≤ 140737488351232) (hl : l.length ≤ 8796093022207) : Ev (fun k => sep_Span.f k l) (span (l.map L) : Int) := by
  unfold sep_Span.f
  cases l with
  | nil => exact ev_pos rfl (ev_some' rfl)
  | cons x r =>
    refine ev_neg (by simp <;> omega) (ev_pos (by simp <;> omega) ?_)
    have h := span_loop x r (hs x (List.mem_cons_self)) (fun s h => hs s (List.mem_cons_of_mem _ h)) (by simp at hl; omega) _ 0 [] (Nat.zero_le _) rfl rfl
    refine ev_eq h ?_
    have e : (r.map fun s => cp (L x) (L s)) = (r.map L).map (cp (L x)) := by rw [List.map_map]; rfl
    rw [List.nil_append, List.drop_zero, ← L_length, e, foldl_cp (L x) (r.map L) _ (Nat.le_refl _)]
    have := spanFrom_le (L x) (r.map L)
    simp only [List.map_cons, span]
    omega
theorem strip_loop (x : List ByteArray) (n : Nat) (hl : x.length ≤ 8796093022207) (hn : ∀ s ∈ x, n ≤ s.size) : ∀ (d i : Nat) (acc : List ByteArray), i ≤ x.length → acc.length = i → x.length - i = d →
    Ev (fun k => sep_Strip.l0 k x (n : Int) acc x (x.length : Int) (i : Int)) ((match x with | [] => (⟨#[]⟩ : ByteArray) | s :: _ => s.extract 0 n), acc ++ (x.drop i).map (fun s => s.extract n s.size)) := by
  intro d
  induction d with
  | zero =>
    intro i acc h1 ha hd
    refine ev_step ?_
    simp only [sep_Strip.l0]
    refine ev_neg (by omega) ?_
    rw [List.drop_of_length_le (by omega), List.map_nil, List.append_nil]
    cases x with
    | nil => exact ev_pos rfl ev_some
    | cons s r =>
      have := hn s (List.mem_cons_self)
      refine ev_neg (by simp <;> omega) (ev_pos (by simp <;> omega) (ev_pos (by omega) ?_))
      rw [rdOf_zero]
      exact ev_pos (by omega) (ev_some' (by simp))
  | succ d ih =>
    intro i acc h1 ha hd
    have hi : i < x.length := by omega
    have := hn x[i] (List.getElem_mem hi)
    refine ev_step ?_
    simp only [sep_Strip.l0]
    rw [rdOf_nat _ x i hi]
    refine ev_pos (by omega) (ev_pos (by omega) (ev_pos (by omega) (ev_pos (by omega) (ev_pos (by omega) (ev_pos (by omega) ?_)))))
    rw [w64_succ (by omega)]
    refine ev_eq (ih (i + 1) _ (by omega) (by simp <;> omega) (by omega)) ?_
    rw [List.drop_eq_getElem_cons hi, List.map_cons, List.append_assoc, Int.toNat_natCast]
    rfl
theorem span_le_size {l : List ByteArray} {s : ByteArray} (h : s ∈ l) : span (l.map L) ≤ s.size := by
  cases l with
  | nil => cases h
  | cons x r =>
    have := (span_all (l := (x :: r).map L) (Nat.le_refl _) (a := L x) rfl (L s) (List.mem_map_of_mem h)).1
    rwa [L_length] at this
def stripped (l : List ByteArray) : ByteArray × List ByteArray :=
  ((match l with | [] => (⟨#[]⟩ : ByteArray) | s :: _ => s.extract 0 (span (l.map L))), l.map (fun s => s.extract (span (l.map L)) s.size))
theorem strip_ev (l : List ByteArray) (hs : ∀ s ∈ l, s.size ≤ 140737488351232) (hl : l.length ≤ 8796093022207) : Ev (fun k => sep_Strip.f k l) (stripped l) := by
  unfold sep_Strip.f
  refine ev_bind (span_ev l hs hl) ?_
  refine ev_eq (strip_loop l (span (l.map L)) hl (fun s h => span_le_size h) _ 0 [] (Nat.zero_le _) rfl rfl) ?_
  rw [List.drop_zero, List.nil_append]
  cases l <;> rfl
theorem words_loop (a b : List ByteArray) (hl : a.length = b.length) (hb : a.length ≤ 140737488351232) : ∀ (d i : Nat), i ≤ a.length → a.length - i = d →
    Ev (fun k => withyref01_Words.l0 k a b (i : Int)) (decide (a.drop i = b.drop i)) := by
  intro d
  induction d with
  | zero =>
    intro i h1 hd
    refine ev_step ?_
    simp only [withyref01_Words.l0]
    refine ev_neg (by omega) (ev_some' ?_)
    rw [List.drop_of_length_le (by omega), List.drop_of_length_le (by omega)]
    simp
  | succ d ih =>
    intro i h1 hd
    have hi : i < a.length := by omega
    have hj : i < b.length := by omega
    refine ev_step ?_
    simp only [withyref01_Words.l0, L_toList]
    rw [rdOf_nat _ a i hi, rdOf_nat _ b i hj]
    refine ev_pos (by omega) (ev_pos (by omega) (ev_pos (by omega) ?_))
    rw [List.drop_eq_getElem_cons hi, List.drop_eq_getElem_cons hj]
    by_cases h : L a[i] = L b[i]
    · refine ev_pos h ?_
      rw [w64_succ (by omega)]
      refine ev_eq (ih (i + 1) (by omega) (by omega)) (decide_eq_decide.2 ?_)
      rw [L_inj h]
      exact ⟨fun e => by rw [e], fun e => by injection e⟩
    · refine ev_neg h (ev_some' (Eq.symm (decide_eq_false ?_)))
      intro e
      injection e with e1 e2
      exact h (by rw [e1])
theorem words_ev (a b : List ByteArray) (hb : a.length ≤ 140737488351232) : Ev (fun k => withyref01_Words.f k a b) (decide (a = b)) := by
  unfold withyref01_Words.f
  by_cases hl : a.length = b.length
  · refine ev_pos (by omega) ?_
    exact words_loop a b hl hb _ 0 (Nat.zero_le _) rfl
  · refine ev_neg (by omega) (ev_some' ?_)
    exact Eq.symm (decide_eq_false (fun e => hl (by rw [e])))
end Go.Proofs.Ytfialmegikegbaa.Spec
