/- What is proved here: the pure statement of MetaEach: a meta of which one thing may not be has no page, whatever the others are. Conditions: sizes within the form's reach. -/
import Derived.Test.YtnkndnpnjbcaoaaStmtMetaEach
import Derived.Test.YtnkndnpnjbcaoaaMFixed
set_option linter.unusedVariables false
set_option linter.unusedSimpArgs false
namespace Go.Proofs.Ytnkndnpnjbcaoaa.Pure
open Go.RowKit Go.Proofs.YtnkndnpnjbcaoaaW.PrintWords Go.Proofs.YtnkndnpnjbcaoaaW.PrintLast Go.Proofs.YtnkndnpnjbcaoaaW.PrintMore Go.Proofs.YtnkndnpnjbcaoaaEv Go.Proofs.YtnkndnpnjbcaoaaSum Go.Proofs.YtnkndnpnjbcaoaaHead Go.Proofs.Ytnkndnpnjbcaoaa.P Go.Proofs.Ytnkndnpnjbcaoaa.Spec

theorem size_eq' (p : Int) : withyref06_Size.f p = some (head_may.sized p) := by
  unfold withyref06_Size.f head_may.sized
  by_cases h1 : p = 128
  · simp [h1]
  · by_cases h2 : p = 256
    · simp [h2]
    · by_cases h3 : p = 512
      · simp [h3]
      · by_cases h4 : p = 1024
        · simp [h4]
        · simp [h1, h2, h3, h4]
theorem each_loop (l : List S23) (hl : l.length ≤ 100) (hno : ∀ x ∈ l, ¬ mayI x.f0 x.f1 x.f2 x.f3 x.f4 = true) (a0 a1 a2 a3 a4 : Int) (hz : head_may.sized a0 = true) : ∀ (d i : Nat), i ≤ l.length → l.length - i = d → Ev (fun k => withylaw13_MetaEach.l0 k l (i : Int) a0 a1 a2 a3 a4) true := by
  intro d
  induction d with
  | zero =>
    intro i h1 hd
    refine ev_step ?_
    simp only [withylaw13_MetaEach.l0]
    exact ev_neg (by omega) (ev_bind_now (size_eq' _) (ev_pos hz (ev_bind fixed_ev ev_some)))
  | succ d ih =>
    intro i h1 hd
    have hi : i < l.length := by omega
    have hg : rd_T23 l (i : Int) = l[i] := by
      unfold rd_T23
      rw [Int.toNat_natCast, List.getD_eq_getElem?_getD, List.getElem?_eq_getElem hi]
      rfl
    have hn := hno l[i] (List.getElem_mem hi)
    refine ev_step ?_
    simp only [withylaw13_MetaEach.l0]
    rw [hg]
    refine ev_pos (by omega) (ev_pos (by omega) (ev_bind (enc_ev _ _ _ _ _) ?_))
    rw [enc_not hn, w64_succ (by omega)]
    exact ev_pos rfl (ev_pos (by rw [L_toList]) (ev_bind_now (may_eq _ _ _ _ _) (ev_neg hn (ih (i + 1) (by omega) (by omega)))))
theorem MetaEach : withylaw13_MetaEach.Pure := by
  intro ⟨a0, a1, a2, a3, a4⟩ n hx hn
  have hn' := wf_u8 hn
  refine Ev.rounds ?_
  show Ev (fun k => withylaw13_MetaEach.f k a0 a1 a2 a3 a4 n) true
  unfold withylaw13_MetaEach.f
  refine ev_bind_now (may_eq _ _ _ _ _) ?_
  by_cases h1 : mayI a0 a1 a2 a3 a4 = true
  · have h1' := (mayI_iff _ _ _ _ _).1 h1
    obtain ⟨q, hq, hq8⟩ : ∃ q : Int, Int.tmod (wrap64 n) 9 = q ∧ 0 ≤ q ∧ q ≤ 8 := ⟨_, rfl, by rw [w64 (by omega) (by omega), Int.tmod_eq_emod_of_nonneg (by omega)]; omega⟩
    rw [hq]
    refine ev_pos h1 (ev_bind_now rfl (ev_pos (by show (0 : Int) < 8; omega) (ev_bind_now rfl (ev_pos (by show (1 : Int) < 8; omega) (ev_bind_now rfl (ev_pos (by show (2 : Int) < 8; omega) (ev_bind_now rfl (ev_pos (by show (3 : Int) < 8; omega) (ev_bind_now rfl (ev_pos (by show (4 : Int) < 8; omega) (ev_bind_now rfl (ev_pos (by show (5 : Int) < 8; omega) (ev_bind_now rfl (ev_pos (by show (6 : Int) < 8; omega) (ev_bind_now rfl (ev_pos (by show (7 : Int) < 8; omega) ?_))))))))))))))))
    refine each_loop _ (by show 8 ≤ 100; omega) ?_ a0 a1 a2 a3 a4 ((sized_iff _).2 h1'.1) 8 0 (by show 0 ≤ 8; omega) rfl
    intro x hx
    have hx' : x ∈ ([⟨wrap64 (wrap64 (a0 + 1) + q), a1, a2, a3, a4⟩, ⟨a0, wrap64 (1 - q), a2, a3, a4⟩, ⟨a0, wrap64 (4097 + q), a2, a3, a4⟩, ⟨a0, a1, wrap64 (-q), a3, a4⟩, ⟨a0, a1, wrap64 (a1 + q), a3, a4⟩, ⟨a0, a1, a2, wrap64 (256 + q), a4⟩, ⟨a0, a1, a2, wrap64 (-1 - q), a4⟩, ⟨a0, a1, a2, a3, wrap64 (-1 - q)⟩] : List S23) := hx
    clear hx
    simp only [List.mem_cons, List.not_mem_nil, or_false] at hx'
    rw [mayI_iff]
    rcases hx' with rfl | rfl | rfl | rfl | rfl | rfl | rfl | rfl <;> simp only
    · rw [w64 (x := a0 + 1) (by omega) (by omega), w64 (by omega) (by omega)]; omega
    · rw [w64 (by omega) (by omega)]; omega
    · rw [w64 (by omega) (by omega)]; omega
    · rw [w64 (by omega) (by omega)]; omega
    · rw [w64 (by omega) (by omega)]; omega
    · rw [w64 (by omega) (by omega)]; omega
    · rw [w64 (by omega) (by omega)]; omega
    · rw [w64 (by omega) (by omega)]; omega
  · refine ev_neg h1 (ev_bind (enc_ev a0 a1 a2 a3 a4) ?_)
    rw [enc_not h1]
    exact ev_pos rfl (ev_pos (by rw [L_toList]) (ev_bind fixed_ev ev_some))
end Go.Proofs.Ytnkndnpnjbcaoaa.Pure
