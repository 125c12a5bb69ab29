/- What is proved here: the fixed calls of the laws of slot. Conditions: none. -/
import Derived.Test.YtkhbmgnjopkeaaaSpec
set_option linter.unusedVariables false
set_option linter.unusedSimpArgs false
namespace Go.Proofs.Ytkhbmgnjopkeaaa.Spec
open Go.RowKit Go.Proofs.YtkhbmgnjopkeaaaW.PrintWords Go.Proofs.YtkhbmgnjopkeaaaW.PrintLast Go.Proofs.YtkhbmgnjopkeaaaW.PrintMore Go.Proofs.YtkhbmgnjopkeaaaEv Go.Proofs.YtkhbmgnjopkeaaaSlot Go.Proofs.Ytkhbmgnjopkeaaa.P

theorem fixed_ev : Ev (fun k => withylaw08_fixed.f k) true := by
  unfold withylaw08_fixed.f
  refine ev_bind (pack_ev _ _ _ (by decide)) ?_
  refine ev_bind (pack_ev _ _ _ (by decide)) ?_
  refine ev_bind (pack_ev _ _ _ (by decide)) ?_
  refine ev_bind (pack_ev _ _ _ (by decide)) ?_
  refine ev_bind (unpack_ev _ _ _) ?_
  refine ev_bind (unpack_ev _ _ _) ?_
  refine ev_bind (unpack_ev _ _ _) ?_
  refine ev_bind (unpack_ev _ _ _) ?_
  refine ev_bind (unpack_ev _ _ _) ?_
  refine ev_bind (pack_ev _ _ _ (by decide)) ?_
  simp only [L_toList]
  refine ev_pos (by decide) (ev_pos (by decide) (ev_pos (by decide) (ev_pos (by decide) (ev_pos (by decide) ?_))))
  refine ev_bind (words_ev _ _ (by decide)) (ev_pos (by decide) ?_)
  refine ev_pos (by decide) (ev_pos (by decide) (ev_pos (by decide) (ev_pos (by decide) (ev_pos (by decide) ?_))))
  refine ev_pos (by decide) (ev_pos (by decide) ?_)
  refine ev_bind_now (size_eq _ _ (by decide)) (ev_pos (by decide) ?_)
  exact ev_bind_now (size_eq _ _ (by decide)) (ev_some' (by decide))

theorem fix60_size (s : ByteArray) : (s.extract 0 (min s.size 60)).size ≤ 60 := by rw [size_extract]; omega
/-- Thirty cells of sixty bytes, and as many fixed bytes. -/
theorem need_cut (f : ByteArray) (l : List ByteArray) (hf : f.size ≤ 61) : need f (cutAll l) ≤ 61 + 30 * 60 + 62 := by
  have hn : need f (cutAll l) = f.size + (cat (cutAll l)).length + 2 * ((cutAll l).length + 1) := rfl
  have h1 := cutAll_length l
  have h2 := cat_length_le 60 (cutAll l) (fun c hc => cutAll_size hc)
  omega
theorem need_le (f : ByteArray) (cs : List ByteArray) (hf : f.size ≤ 61) (hl : cs.length ≤ 60) (hs : ∀ c ∈ cs, c.size ≤ 61) : need f cs ≤ 61 + 63 * cs.length + 2 := by
  have hn : need f cs = f.size + (cat cs).length + 2 * (cs.length + 1) := rfl
  have h2 := cat_length_le 61 cs hs
  omega
theorem packed_ok {room : Nat} {f : ByteArray} {cs : List ByteArray} (h : need f cs ≤ room) (hr : room ≤ 65535) : packed (room : Int) f cs = (body room f cs, 0) := by
  unfold packed
  rw [if_neg (by omega), if_neg (by omega), Int.toNat_natCast]
theorem packed_much {room : Nat} {f : ByteArray} {cs : List ByteArray} (h : room < need f cs) (hr : room ≤ 65535) : packed (room : Int) f cs = (⟨#[]⟩, 8) := by
  unfold packed
  rw [if_neg (by omega), if_pos (by omega)]
theorem tmod_range (a n : Nat) (h : 0 < n) : Int.tmod (a : Int) (n : Int) = ((a % n : Nat) : Int) := rfl
theorem cat_set : ∀ (cs : List ByteArray) (i : Nat) (x : ByteArray) (h : i < cs.length), (cat (cs.set i x)).length + cs[i].size = (cat cs).length + x.size
  | c :: cs, 0, x, h => by
    simp only [List.set_cons_zero, cat_cons, List.length_append, L_length, List.getElem_cons_zero]
    omega
  | c :: cs, i + 1, x, h => by
    have := cat_set cs i x (by simpa using h)
    simp only [List.set_cons_succ, cat_cons, List.length_append, L_length, List.getElem_cons_succ]
    omega
end Go.Proofs.Ytkhbmgnjopkeaaa.Spec
