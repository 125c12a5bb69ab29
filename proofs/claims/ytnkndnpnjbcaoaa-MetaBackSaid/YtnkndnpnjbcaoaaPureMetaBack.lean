/- What is proved here: the pure statement of MetaBack: a meta is decoded as it was encoded; a page that is decoded is what is encoded of that; unlike metas have unlike pages. Conditions: sizes within the form's reach. -/
import Derived.Test.YtnkndnpnjbcaoaaStmtMetaBack
import Derived.Test.YtnkndnpnjbcaoaaMFixed
set_option linter.unusedVariables false
set_option linter.unusedSimpArgs false
namespace Go.Proofs.Ytnkndnpnjbcaoaa.Pure
open Go.RowKit Go.Proofs.YtnkndnpnjbcaoaaW.PrintWords Go.Proofs.YtnkndnpnjbcaoaaW.PrintLast Go.Proofs.YtnkndnpnjbcaoaaW.PrintMore Go.Proofs.YtnkndnpnjbcaoaaEv Go.Proofs.YtnkndnpnjbcaoaaSum Go.Proofs.YtnkndnpnjbcaoaaHead Go.Proofs.Ytnkndnpnjbcaoaa.P Go.Proofs.Ytnkndnpnjbcaoaa.Spec

theorem back1_ev (t : ByteArray) (hsz : t.size ≤ 140737488300000) : Ev (fun k => withylaw13_MetaBack.j1 k t) true := by
  refine ev_step ?_
  simp only [withylaw13_MetaBack.j1]
  refine ev_bind (dec_ev t hsz) ?_
  by_cases hm : isMeta t
  · have hd : decoded t = tellM (mgot t) := if_pos hm
    rw [hd]
    refine ev_pos rfl (ev_bind (enc_ev (mgot t).p (mgot t).g (mgot t).r (mgot t).l (mgot t).n) ?_)
    rcases enc_got t with ⟨_, e⟩ | ⟨h, _⟩
    · rw [e]
      exact ev_pos rfl (ev_pos rfl (ev_bind_now (may_eq (mgot t).p (mgot t).g (mgot t).r (mgot t).l (mgot t).n) (ev_pos ((may_of _).2 hm.1) (ev_bind fixed_ev ev_some))))
    · exact absurd hm h
  · rw [decoded_not hm]
    exact ev_neg (by decide) (ev_pos rfl (ev_pos rfl (ev_bind fixed_ev ev_some)))
theorem back0_ev (t : ByteArray) (hsz : t.size ≤ 140737488300000) {m : Mt} (ok : m.ok) : Ev (fun k => withylaw13_MetaBack.j0 k t (encB m) 0 false m.p m.g m.r m.l m.n) true := by
  have hz := encB_size ok
  have h16 := size16 ok.1
  refine ev_step ?_
  simp only [withylaw13_MetaBack.j0]
  have d := dec_ev (encB m) (by omega)
  rw [decoded_of ok] at d
  refine ev_neg (by decide) (ev_pos (by first | rfl | trivial) (ev_bind d (ev_pos rfl (ev_neg ?_ (ev_pos (by rw [hz]) (back1_ev t hsz))))))
  simp [tellM]
theorem MetaBack : withylaw13_MetaBack.Pure := by
  intro ⟨a0, a1, a2, a3, a4⟩ ⟨b0, b1, b2, b3, b4⟩ s hx hy hz
  have ms := mn_eq (s.size : Int) 1100
  have m1 : (mn (s.size : Int) 1100).toNat = min s.size 1100 := by omega
  refine Ev.rounds ?_
  show Ev (fun k => withylaw13_MetaBack.f k a0 a1 a2 a3 a4 b0 b1 b2 b3 b4 s) true
  unfold withylaw13_MetaBack.f
  rw [m1]
  have hs : (s.extract 0 (min s.size 1100)).size ≤ 140737488300000 := by rw [size_extract]; omega
  refine ev_pos (by omega) (ev_pos (by omega) ?_)
  generalize s.extract 0 (min s.size 1100) = c at hs ⊢
  refine ev_bind (enc_ev a0 a1 a2 a3 a4) (ev_bind (enc_ev b0 b1 b2 b3 b4) (ev_bind_now (may_eq a0 a1 a2 a3 a4) ?_))
  by_cases h1 : mayI a0 a1 a2 a3 a4 = true
  · obtain ⟨m, ok, rfl, rfl, rfl, rfl, rfl⟩ := may_mt h1
    rw [enc_of ok, h1]
    refine ev_neg (by simp) (ev_pos rfl ?_)
    by_cases h2 : mayI b0 b1 b2 b3 b4 = true
    · obtain ⟨n, on, rfl, rfl, rfl, rfl, rfl⟩ := may_mt h2
      rw [enc_of on]
      refine ev_pos rfl ?_
      have e : ((encB m).toList == (encB n).toList) = ((m.p : Int) == (n.p : Int) && ((m.g : Int) == (n.g : Int) && ((m.r : Int) == (n.r : Int) && ((m.l : Int) == (n.l : Int) && ((m.n : Int) == (n.n : Int)))))) := by
        by_cases hmn : m = n
        · subst hmn
          simp
        · have hne : ¬ L (encB m) = L (encB n) := fun e => hmn (encB_inj ok on e)
          have q1 : ((encB m).toList == (encB n).toList) = false := by rw [L_toList, L_toList]; simpa using hne
          rw [q1]
          symm
          rw [Bool.eq_false_iff]
          intro e
          apply hmn
          cases m
          cases n
          simp at e
          simp
          omega
      show Ev (fun k => withylaw13_MetaBack.j0 k c (encB m) 0 (((encB m).toList == (encB n).toList) != ((m.p : Int) == (n.p : Int) && ((m.g : Int) == (n.g : Int) && ((m.r : Int) == (n.r : Int) && ((m.l : Int) == (n.l : Int) && ((m.n : Int) == (n.n : Int))))))) m.p m.g m.r m.l m.n) true
      rw [e, bne_self_eq_false]
      exact back0_ev c hs ok
    · rw [enc_not h2]
      exact ev_neg (by decide) (back0_ev c hs ok)
  · have h1' : mayI a0 a1 a2 a3 a4 = false := by simpa using h1
    rw [enc_not h1, h1']
    refine ev_neg (by decide) (ev_neg (by decide) (ev_step ?_))
    simp only [withylaw13_MetaBack.j0]
    exact ev_neg (by decide) (ev_neg (by decide) (back1_ev c hs))
end Go.Proofs.Ytnkndnpnjbcaoaa.Pure
