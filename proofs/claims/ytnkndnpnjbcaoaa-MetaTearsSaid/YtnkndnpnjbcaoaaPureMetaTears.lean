/- What is proved here: the pure statement of MetaTears: what is torn twice over the same, over itself, and over what is longer. Conditions: sizes within the form's reach. -/
import Derived.Test.YtnkndnpnjbcaoaaStmtMetaTears
import Derived.Test.YtnkndnpnjbcaoaaMFixed
set_option linter.unusedVariables false
set_option linter.unusedSimpArgs false
namespace Go.Proofs.Ytnkndnpnjbcaoaa.Pure
open Go.RowKit Go.Proofs.YtnkndnpnjbcaoaaW.PrintWords Go.Proofs.YtnkndnpnjbcaoaaW.PrintLast Go.Proofs.YtnkndnpnjbcaoaaW.PrintMore Go.Proofs.YtnkndnpnjbcaoaaEv Go.Proofs.YtnkndnpnjbcaoaaSum Go.Proofs.YtnkndnpnjbcaoaaHead Go.Proofs.Ytnkndnpnjbcaoaa.P Go.Proofs.Ytnkndnpnjbcaoaa.Spec

theorem torn_get (a b : ByteArray) (i x : Nat) (h : i ≤ a.size) : (L (torn a b i))[x]? = if x < i then (L a)[x]? else (L b)[x]? := by
  have ha := L_length a
  rw [torn_L, List.getElem?_append, List.length_take, show min i (L a).length = i by omega]
  by_cases hx : x < i
  · rw [if_pos hx, if_pos hx, List.getElem?_take, if_pos hx]
  · rw [if_neg hx, if_neg hx, List.getElem?_drop]
    congr 1
    omega
theorem MetaTears : withylaw13_MetaTears.Pure := by
  intro a b ⟨n0, n1⟩ ha hb hz
  have mm := mn_eq (a.size : Int) (b.size : Int)
  have m3 := mn_eq (mn (a.size : Int) (b.size : Int)) 300
  have mn01 := mn_eq n0 n1
  refine Ev.rounds ?_
  show Ev (fun k => withylaw13_MetaTears.f k a b n0 n1) true
  unfold withylaw13_MetaTears.f
  refine ev_pos (by omega) (ev_pos (by omega) (ev_pos (by omega) ?_))
  obtain ⟨q, hq, hq1, hq2, hq3⟩ : ∃ q : Nat, mn (mn (a.size : Int) (b.size : Int)) 300 = q ∧ q ≤ a.size ∧ q ≤ b.size ∧ q ≤ 300 := ⟨(mn (mn (a.size : Int) (b.size : Int)) 300).toNat, by omega, by omega, by omega, by omega⟩
  rw [hq, Int.toNat_natCast]
  have sc : (a.extract 0 q).size = q := by rw [size_extract]; omega
  have sd : (b.extract 0 q).size = q := by rw [size_extract]; omega
  generalize a.extract 0 q = c at sc ⊢
  generalize b.extract 0 q = d at sd ⊢
  have hcd : c.size = d.size := by omega
  have I : ∀ (x y : ByteArray) (n : Int), x.size = q → y.size = q → tornI x y n = torn x y (min (max n 0).toNat q) := fun x y n hx hy => by
    unfold tornI
    rw [if_pos (by omega), hx]
  have sA : (torn c d (min (max n0 0).toNat q)).size = q := by rw [torn_size _ _ _ hcd]; exact sc
  have sx : (⟨#[120]⟩ : ByteArray).size = 1 := rfl
  have tA : meta_Tear.f c d n0 = some (torn c d (min (max n0 0).toNat q)) := by rw [tear_eq _ _ _ (by omega), I c d n0 sc sd]
  refine ev_bind_now tA ?_
  have hA := torn_get c d (min (max n0 0).toNat q)
  generalize torn c d (min (max n0 0).toNat q) = A at sA hA ⊢
  refine ev_bind_now (tear_eq A d n1 (by omega)) (ev_bind_now (tear_eq c d (mn n0 n1) (by omega)) (ev_pos ?_ (ev_bind_now (tear_eq c c n0 (by omega)) (ev_pos ?_ (ev_pos (by omega) (ev_bind_now (tear_eq c A n0 (by omega)) (ev_pos ?_ (ev_pos (by omega) (ev_bind_now (tear_eq c (d ++ ⟨#[120]⟩) n0 (by omega)) (ev_pos ?_ (ev_bind fixed_ev ev_some)))))))))))
  · rw [L_toList, L_toList, I A d n1 sA sd, I c d _ sc sd]
    apply List.ext_getElem?
    intro x
    rw [torn_get _ _ _ _ (by omega), torn_get _ _ _ _ (by omega), hA x (by omega)]
    by_cases h1 : x < min (max n1 0).toNat q
    · rw [if_pos h1]
      by_cases h2 : x < min (max n0 0).toNat q
      · rw [if_pos h2, if_pos (by omega)]
      · rw [if_neg h2, if_neg (by omega)]
    · rw [if_neg h1, if_neg (by omega)]
  · rw [L_toList, L_toList, I c c n0 sc sc]
    apply List.ext_getElem?
    intro x
    rw [torn_get _ _ _ _ (by omega)]
    split <;> rfl
  · rw [L_toList, L_toList, I c A n0 sc sA]
    apply List.ext_getElem?
    intro x
    rw [torn_get _ _ _ _ (by omega), hA x (by omega)]
    split <;> rfl
  · unfold tornI
    rw [if_neg (by rw [ByteArray.size_append]; omega), L_toList]
end Go.Proofs.Ytnkndnpnjbcaoaa.Pure
