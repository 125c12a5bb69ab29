/- What is proved here: that the law's fixed calls answer as they should, and what the law cuts. Conditions: none. -/
import Derived.Test.YtjfgeppfkhaliaaDoorCGet
set_option linter.unusedVariables false
set_option linter.unusedSimpArgs false
namespace Go.Proofs.YtjfgeppfkhaliaaDoor.Spec
open Go.RowKit Go.Proofs.YtjfgeppfkhaliaaDoorW.PrintWords Go.Proofs.YtjfgeppfkhaliaaDoorW.PrintLast Go.Proofs.YtjfgeppfkhaliaaDoorW.PrintMore Go.Proofs.YtjfgeppfkhaliaaDoorEv Go.Proofs.YtjfgeppfkhaliaaDoorCol Go.Proofs.YtjfgeppfkhaliaaDoorR Go.Proofs.YtjfgeppfkhaliaaDoor.P

theorem fput (a0 a1 a2 : Int) (s : ByteArray) (l : List UInt8) (hl : L s = l) (b1 : -9223372036854775808 ≤ a1) (b2 : a1 ≤ 9223372036854775807) (b3 : 0 ≤ a2) (b4 : a2 ≤ 18446744073709551615) (hs : s.size ≤ 1000) (r : List UInt8) (hr : Right ⟨a0, a1, a2, l⟩) (e : cput ⟨a0, a1, a2, l⟩ = r) :
    Ev (fun k => col_Put.f k a0 a1 a2 s) (B r, 0) := by
  subst hl
  have h := cput_ev a0 a1 a2 s ⟨b1, b2, b3, b4⟩ hs
  unfold putV at h
  rw [if_pos hr, e] at h
  exact h
theorem fget (s : ByteArray) (p : Nat) (hp : p ≤ s.size) (hs : s.size ≤ 10000) (l : List UInt8) (hl : (L s).drop p = l) (q : Cl × Nat × Int) (e : cparse l = q) : Ev (fun k => col_Get.f k s (p : Int)) (gres p q) := by
  have h := get_ev s (p : Int) hs
  unfold getV at h
  rw [if_neg (by omega), Int.toNat_natCast, hl, e] at h
  exact h
theorem fixed_ev : Ev (fun k => withylaw03_fixed.f k) true := by
  unfold withylaw03_fixed.f
  refine ev_bind (fput 2 (-1) 0 (⟨#[]⟩ : ByteArray) [] rfl (by decide) (by decide) (by decide) (by decide) (by decide) [48, 127, 255, 255, 255, 255, 255, 255, 255] (by decide) (by decide)) ?_
  refine ev_bind (fput 4 0 0 (⟨#[0, 97]⟩ : ByteArray) [0, 97] rfl (by decide) (by decide) (by decide) (by decide) (by decide) [80, 0, 255, 97, 0, 1] (by decide) (by decide)) ?_
  refine ev_bind (fput 0 0 0 (⟨#[]⟩ : ByteArray) [] rfl (by decide) (by decide) (by decide) (by decide) (by decide) [16] (by decide) (by decide)) ?_
  refine ev_bind (fput 1 0 1 (⟨#[]⟩ : ByteArray) [] rfl (by decide) (by decide) (by decide) (by decide) (by decide) [33] (by decide) (by decide)) ?_
  have h5 := cput_ev 1 0 2 (⟨#[]⟩ : ByteArray) ⟨by decide, by decide, by decide, by decide⟩ (by decide)
  unfold putV at h5
  rw [if_neg (by decide)] at h5
  refine ev_bind h5 ?_
  refine ev_bind (fget (⟨#[122, 80, 0, 255, 97, 0, 1, 121]⟩ : ByteArray) 1 (by decide) (by decide) [80, 0, 255, 97, 0, 1, 121] rfl (⟨4, 0, 0, [0, 97]⟩, 6, 0) rfl) ?_
  refine ev_bind (fget (⟨#[80, 97]⟩ : ByteArray) 0 (by decide) (by decide) [80, 97] rfl (zero, 0, 7) rfl) ?_
  refine ev_bind (fget (⟨#[80, 0, 2]⟩ : ByteArray) 0 (by decide) (by decide) [80, 0, 2] rfl (zero, 0, 3) rfl) ?_
  refine ev_bind (fget (⟨#[17]⟩ : ByteArray) 0 (by decide) (by decide) [17] rfl (zero, 0, 3) rfl) ?_
  refine ev_bind (fget (⟨#[64, 241, 0]⟩ : ByteArray) 0 (by decide) (by decide) [64, 241, 0] rfl (zero, 0, 3) rfl) ?__
  have h11 := get_ev (⟨#[97]⟩ : ByteArray) 2 (by decide)
  unfold getV at h11
  rw [if_pos (by decide)] at h11
  refine ev_bind h11 ?_
  refine ev_pos (by rw [L_toList, B_L]) (ev_pos rfl (ev_pos (by rw [L_toList, B_L]) (ev_pos rfl (ev_pos (by rw [L_toList, B_L]) (ev_pos rfl (ev_pos (by rw [L_toList, B_L]) (ev_pos rfl (ev_pos rfl ?_))))))))
  refine ev_pos ?_ (ev_pos rfl (ev_pos rfl (ev_pos rfl (ev_pos rfl (ev_pos rfl (ev_pos rfl (ev_pos rfl ?_)))))))
  · unfold gres
    rw [if_pos rfl]
    simp only [L_toList, B_L]
    rfl
  refine ev_bind (compare_ev 2 (-1) 0 _ 2 0 0 _) (ev_pos rfl (ev_bind (compare_ev 4 0 0 _ 3 0 9 _) (ev_pos rfl ?_)))
  refine ev_bind (right_ev 3 0 9 _ (by decide)) (ev_pos (by decide) (ev_bind (right_ev 3 9 0 _ (by decide)) (ev_neg (by decide) ev_some)))
/-! ### what is cut -/
def cutS (s : ByteArray) (n : Nat) : ByteArray := B ((L s).take n)
theorem cutS_L (s : ByteArray) (n : Nat) : L (cutS s n) = (L s).take n := B_L _
theorem cutS_size (s : ByteArray) (n : Nat) : (cutS s n).size ≤ n := by unfold cutS; rw [B_size, List.length_take]; omega
theorem extract_cut (s : ByteArray) (n : Nat) : s.extract 0 ((mn (s.size : Int) (n : Int)) : Int).toNat = cutS s n := by
  refine L_inj ?_
  rw [L_to, cutS_L, mn_eq]
  by_cases h : s.size ≤ n
  · rw [show (min (s.size : Int) (n : Int)).toNat = s.size by omega, List.take_of_length_le (by rw [L_length]; exact Nat.le_refl _), List.take_of_length_le (by rw [L_length]; exact h)]
  · rw [show (min (s.size : Int) (n : Int)).toNat = n by omega]
theorem mn_bounds (s : ByteArray) (n : Nat) : 0 ≤ mn (s.size : Int) (n : Int) ∧ mn (s.size : Int) (n : Int) ≤ (s.size : Int) := by rw [mn_eq]; omega
theorem cut_eq (a0 a1 a2 : Int) (s : ByteArray) : withylaw03_Cut.f a0 a1 a2 s = some (a0, a1, a2, cutS s 60) := by
  unfold withylaw03_Cut.f
  have this : 0 ≤ mn (s.size : Int) 60 ∧ mn (s.size : Int) 60 ≤ (s.size : Int) := mn_bounds s 60
  rw [if_pos this.1, if_pos this.2]
  exact congrArg (fun x => some (a0, a1, a2, x)) (extract_cut s 60)
theorem ref_eq (a0 a1 a2 : Int) (s : ByteArray) : withylaw03_Ref.f a0 a1 a2 s = some (a0, a1, a2, s) := rfl
def cl (x : S24) : Cl := ⟨x.f0, x.f1, x.f2, (L x.f3).take 60⟩
theorem wf_u64 {x : Int} (h : (Lit.int .u64 x).wf = true) : 0 ≤ x ∧ x ≤ 18446744073709551615 := wf_of h
end Go.Proofs.YtjfgeppfkhaliaaDoor.Spec
