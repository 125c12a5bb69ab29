/- What is proved here: the pure statement of InnerBack: an inner page that has a page is decoded as it was encoded; a page that is decoded is what is encoded of that. Conditions: none. -/
import Derived.Test.YtafebmhmcdnhkaaGreatStmtInnerBack
import Derived.Test.YtafebmhmcdnhkaaGreatIB
set_option linter.unusedVariables false
set_option linter.unusedSimpArgs false
namespace Go.Proofs.YtafebmhmcdnhkaaGreat.Pure
open Go.RowKit Go.Proofs.YtafebmhmcdnhkaaGreatW.PrintWords Go.Proofs.YtafebmhmcdnhkaaGreatW.PrintLast Go.Proofs.YtafebmhmcdnhkaaGreatW.PrintMore Go.Proofs.YtafebmhmcdnhkaaGreatEv Go.Proofs.YtafebmhmcdnhkaaGreatMath Go.Proofs.YtafebmhmcdnhkaaGreatSlot Go.Proofs.YtafebmhmcdnhkaaGreat.P Go.Proofs.YtafebmhmcdnhkaaGreatW.Abbr Go.Proofs.YtafebmhmcdnhkaaGreat.Spec
theorem eqi_self (l : List Int) (hl : l.length ≤ 140737488351232) : Ev (fun k => slices_Equal_int_int.f k l l) true := by
  unfold slices_Equal_int_int.f
  refine ev_pos rfl ?_
  have loop : ∀ (d i : Nat), i + d = l.length → Ev (fun k => slices_Equal_int_int.l0 k l l (l.length : Int) (i : Int)) true := by
    intro d
    induction d with
    | zero =>
      intro i hi
      refine ev_step ?_
      simp only [slices_Equal_int_int.l0]
      exact ev_neg (by omega) ev_some
    | succ d ih =>
      intro i hi
      refine ev_step ?_
      simp only [slices_Equal_int_int.l0]
      rw [w64_succ (by omega)]
      exact ev_pos (by omega) (ev_pos (by omega) (ev_pos (by omega) (ev_pos (by omega) (ev_pos (by first | rfl | trivial) (ih (i + 1) (by omega))))))
  exact loop l.length 0 (Nat.zero_add _)
theorem eqs_self (l : List ByteArray) (hl : l.length ≤ 140737488351232) : Ev (fun k => slices_Equal_string_string.f k l l) true := by
  unfold slices_Equal_string_string.f
  refine ev_pos rfl ?_
  have loop : ∀ (d i : Nat), i + d = l.length → Ev (fun k => slices_Equal_string_string.l0 k l l (l.length : Int) (i : Int)) true := by
    intro d
    induction d with
    | zero =>
      intro i hi
      refine ev_step ?_
      simp only [slices_Equal_string_string.l0]
      exact ev_neg (by omega) ev_some
    | succ d ih =>
      intro i hi
      refine ev_step ?_
      simp only [slices_Equal_string_string.l0]
      rw [w64_succ (by omega)]
      exact ev_pos (by omega) (ev_pos (by omega) (ev_pos (by omega) (ev_pos (by omega) (ev_pos (by first | rfl | trivial) (ih (i + 1) (by omega))))))
  exact loop l.length 0 (Nat.zero_add _)
theorem same_self (a0 a1 r : Int) (high : ByteArray) (kids : List Int) (seps : List ByteArray) (hk : kids.length ≤ 100000) (hs : seps.length ≤ 100000) : Ev (fun k => inner_Same.f k a0 a1 r high kids seps a0 a1 r high kids seps) true := by
  unfold inner_Same.f
  exact ev_pos rfl (ev_pos rfl (ev_pos rfl (ev_pos rfl (ev_bind (eqi_self kids (by omega)) (ev_pos rfl (ev_bind (eqs_self seps (by omega)) ev_some))))))
theorem size_may {a0 a1 r : Int} {high : ByteArray} {kids : List Int} {seps : List ByteArray} {p : Int} (h : mayOk a0 a1 r high kids seps p = true) (hl : seps.length ≤ 100000) : Ev (fun k => inner_Size.f k a0 a1 r high kids seps) (inNeed kids seps high : Int) := by
  obtain ⟨h0, h1, h2, h3, h4, h5, h6, h7, h8, h9, h10⟩ := may_facts h
  obtain ⟨k0, ks, ek⟩ : ∃ k0 ks, kids.map Int.toNat = k0 :: ks := by
    cases h : kids.map Int.toNat with
    | nil =>
      have h11 : (kids.map Int.toNat).length = 0 := by rw [h]; rfl
      rw [List.length_map] at h11
      omega
    | cons a b => exact ⟨a, b, rfl⟩
  have en := nat_kids h6
  have hlen : ks.length = seps.length := by have := congrArg List.length ek; simp at this; omega
  have hk : ∀ x ∈ k0 :: ks, 1 ≤ x ∧ x < 4096 := fun x hx => by
    rw [← ek] at hx
    obtain ⟨y, hy, rfl⟩ := List.mem_map.1 hx
    have := h6 y hy
    omega
  have hs : ∀ s ∈ seps, s.size ≤ 128 := fun s m => by have := h9 s m; omega
  have e := size_ev k0 ks seps high hlen hk hs (by omega) hl a0 a1 r
  rw [← ek, en] at e
  rw [inNeed_isz k0 ks kids seps high ek]
  exact e
theorem back_j0 (s : ByteArray) (hs : s.size ≤ 1100) : Ev (fun k => withylaw11_InnerBack.j0 k s) true := by
  have hf := ifin_ev
  refine ev_step ?_
  simp only [withylaw11_InnerBack.j0]
  obtain ⟨r, hr, h⟩ := dec_tot s (by omega)
  refine ev_bind hr ?_
  rcases h with rfl | ⟨a0, a1, rr, high, kids, seps, rfl, hl, he⟩
  · exact ev_neg (by decide) (ev_pos rfl (ev_bind (same_self 0 0 0 ⟨#[]⟩ [] [] (Nat.zero_le _) (Nat.zero_le _)) (ev_pos rfl hf)))
  · have hn := enc_ev a0 a1 rr high kids seps (s.size : Int) (by omega)
    rw [he] at hn
    have hm := may_ev a0 a1 rr high kids seps (s.size : Int) (by omega)
    rw [(enc_facts he).1] at hm
    exact ev_pos rfl (ev_bind hn (ev_pos rfl (ev_pos rfl (ev_bind hm (ev_pos rfl hf)))))
theorem InnerBack : withylaw11_InnerBack.Pure := by
  intro x p s hx hp hs
  refine Ev.rounds ?_
  unfold withylaw11_InnerBack.f
  refine ev_bind (icut_ev x.f0 x.f1 x.f2 x.f3 x.f4 x.f5) ?_
  simp only
  generalize hK : x.f4.take 30 = K
  generalize hS : cutSeps x.f5 = S
  have hSl : S.length ≤ 30 := by rw [← hS]; exact cutSeps_length _
  have hKl : K.length ≤ 30 := by rw [← hK, List.length_take]; omega
  generalize cut140 x.f3 = hi
  have m1 := mn_eq (s.size : Int) 1100
  have hj := back_j0 (s.extract 0 ((mn (s.size : Int) 1100) : Int).toNat) (by rw [size_extract]; omega)
  refine ev_pos (by omega) (ev_pos (by omega) (ev_bind (enc_ev x.f0 x.f1 x.f2 hi K S p (by omega)) ?_))
  by_cases he2 : (enc x.f0 x.f1 x.f2 hi K S p).2 = 0
  · obtain ⟨t, ht⟩ : ∃ t, enc x.f0 x.f1 x.f2 hi K S p = (t, 0) := ⟨(enc x.f0 x.f1 x.f2 hi K S p).1, Prod.ext rfl he2⟩
    obtain ⟨p1, p2, p3, p4, p5, p6⟩ := page_facts ht
    obtain ⟨hm, hfit, hpg⟩ := enc_facts ht
    rw [ht]
    have hmv := may_ev x.f0 x.f1 x.f2 hi K S p (by omega)
    rw [hm] at hmv
    have hsz := size_may hm (by omega)
    have hd : Ev (fun k => inner_Decode.f k t) (x.f0, x.f1, x.f2, hi, K, S, 0) := dec_back (by rw [p1]; exact ht)
    exact ev_pos rfl (ev_bind hd (ev_pos rfl (ev_bind (same_self x.f0 x.f1 x.f2 hi K S (by omega) (by omega)) (ev_pos rfl (ev_pos p1 (ev_bind hmv (ev_pos rfl (ev_bind hsz (ev_neg (by rw [w64 (by omega) (by omega)]; omega) hj)))))))))
  · exact ev_neg he2 hj
end Go.Proofs.YtafebmhmcdnhkaaGreat.Pure
