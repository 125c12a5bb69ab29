/- What is proved here: the pure statement of MetaTorn: a page that is torn over bytes 0 is none, unless it is whole; nor over a page that ends otherwise. Conditions: sizes within the form's reach. -/
import Derived.Test.YtnkndnpnjbcaoaaStmtMetaTorn
import Derived.Test.YtnkndnpnjbcaoaaMFixed
set_option linter.unusedVariables false
set_option linter.unusedSimpArgs false
namespace Go.Proofs.Ytnkndnpnjbcaoaa.Pure
open Go.RowKit Go.Proofs.YtnkndnpnjbcaoaaW.PrintWords Go.Proofs.YtnkndnpnjbcaoaaW.PrintLast Go.Proofs.YtnkndnpnjbcaoaaW.PrintMore Go.Proofs.YtnkndnpnjbcaoaaEv Go.Proofs.YtnkndnpnjbcaoaaSum Go.Proofs.YtnkndnpnjbcaoaaHead Go.Proofs.Ytnkndnpnjbcaoaa.P Go.Proofs.Ytnkndnpnjbcaoaa.Spec

theorem rep_last (c n k : Nat) (hc : c < 256) (h : c ≠ 87) : (L (repB c n))[k]? ≠ some 87 := by
  rw [repB_L, List.getElem?_replicate]
  split
  · intro e
    injection e with e
    have := congrArg UInt8.toNat e
    simp at this
    omega
  · simp
theorem MetaTorn : withylaw13_MetaTorn.Pure := by
  intro ⟨a0, a1, a2, a3, a4⟩ n c hx hn hc
  have hn' := wf_u16 hn
  have hc' := wf_u8 hc
  obtain ⟨n, rfl⟩ : ∃ k : Nat, n = k := ⟨n.toNat, by omega⟩
  obtain ⟨c, rfl⟩ : ∃ k : Nat, c = k := ⟨c.toNat, by omega⟩
  refine Ev.rounds ?_
  show Ev (fun k => withylaw13_MetaTorn.f k a0 a1 a2 a3 a4 n c) true
  unfold withylaw13_MetaTorn.f
  refine ev_bind (enc_ev a0 a1 a2 a3 a4) ?_
  by_cases h1 : mayI a0 a1 a2 a3 a4 = true
  · obtain ⟨m, ok, rfl, rfl, rfl, rfl, rfl⟩ := may_mt h1
    rw [enc_of ok]
    have hz := encB_size ok
    have h16 := size16 ok.1
    refine ev_pos rfl (ev_step ?_)
    simp only [withylaw13_MetaTorn.j0]
    refine ev_neg (by simp; omega) ?_
    rw [w64 (x := (n : Int)) (by omega) (by omega), w64 (x := ((encB m).size : Int) + 1) (by omega) (by omega), Int.tmod_eq_emod_of_nonneg (by omega)]
    have em1 := Int.emod_nonneg (n : Int) (show ((encB m).size : Int) + 1 ≠ 0 by omega)
    have em2 := Int.emod_lt_of_pos (n : Int) (show (0 : Int) < ((encB m).size : Int) + 1 by omega)
    obtain ⟨j, hj, hjs⟩ : ∃ j : Nat, (n : Int) % (((encB m).size : Int) + 1) = j ∧ j ≤ (encB m).size := ⟨((n : Int) % (((encB m).size : Int) + 1)).toNat, by omega, by omega⟩
    rw [hj]
    have hd0 := decoded_of ok
    have tz : ∀ b, b.size = (encB m).size → meta_Tear.f (encB m) b (j : Int) = some (torn (encB m) b j) := fun b hb => by rw [tear_eq _ _ _ (by omega)]; exact congrArg some (tornI_eq hb.symm j hjs)
    have hj1 : Ev (fun k => withylaw13_MetaTorn.j1 k (c : Int) (encB m) (j : Int) false) true := by
      refine ev_step ?_
      simp only [withylaw13_MetaTorn.j1]
      have rc := repB_size c (encB m).size
      refine ev_neg (by decide) (ev_bind (rrepeat_ev c _ (by omega)) (ev_bind_now (tz _ rc) (ev_bind (dec_ev _ (by rw [torn_size _ _ _ rc.symm]; omega)) ?_)))
      by_cases h87 : c = 87
      · exact ev_pos (by omega) (ev_bind fixed_ev ev_some)
      · refine ev_neg (by omega) (ev_pos ?_ (ev_bind fixed_ev ev_some))
        by_cases hjz : j = (encB m).size
        · rw [torn_all _ _ _ rc.symm (by omega), hd0, hjz]
          simp [tellM]
        · rw [decoded_not (torn_not rc.symm (by omega) (rep_last c _ _ (by omega) h87))]
          have q : ((j : Int) == ((encB m).size : Int)) = false := by simp; omega
          rw [q]
          rfl
    have r0 := repB_size 0 (encB m).size
    refine ev_neg (by omega) (ev_bind (rrepeat_ev 0 _ (by omega)) (ev_bind_now (tz _ r0) (ev_bind (dec_ev _ (by rw [torn_size _ _ _ r0.symm]; omega)) ?_)))
    by_cases hjz : j = (encB m).size
    · rw [torn_all _ _ _ r0.symm (by omega), hd0]
      refine ev_neg ?_ (ev_pos rfl ?_)
      · rw [hjz]; simp [tellM]
      · have q : (!((tellM m).1 == (m.p : Int)) || (!((tellM m).2.1 == (m.g : Int)) || (!((tellM m).2.2.1 == (m.r : Int)) || (!((tellM m).2.2.2.1 == (m.l : Int)) || (!((tellM m).2.2.2.2.1 == (m.n : Int))))))) = false := by simp [tellM]
        rw [q]
        exact hj1
    · rw [decoded_not (torn_not r0.symm (by omega) (rep_last 0 _ _ (by omega) (by omega)))]
      have q : ((j : Int) == ((encB m).size : Int)) = false := by simp; omega
      refine ev_neg ?_ (ev_neg (by decide) hj1)
      rw [q]
      decide
  · rw [enc_not h1]
    refine ev_neg (by decide) (ev_step ?_)
    simp only [withylaw13_MetaTorn.j0]
    exact ev_pos (by first | rfl | trivial) (ev_pos (by first | rfl | trivial) (ev_bind_now (may_eq _ _ _ _ _) (ev_neg h1 (ev_bind fixed_ev ev_some))))
end Go.Proofs.Ytnkndnpnjbcaoaa.Pure
