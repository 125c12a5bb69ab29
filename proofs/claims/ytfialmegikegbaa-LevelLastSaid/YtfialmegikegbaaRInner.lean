/- What is proved here: how many bytes a page of kids needs, as the reference's printed functions tell it, for texts of at most 128 bytes. Conditions: sizes within the form's reach. -/
import Derived.Test.YtfialmegikegbaaPS
import Derived.Test.YtfialmegikegbaaInner
import Derived.Test.YtfialmegikegbaaRSep
import Derived.Test.YtfialmegikegbaaRNeed
set_option linter.unusedVariables false
set_option linter.unusedSimpArgs false
namespace Go.Proofs.Ytfialmegikegbaa.Spec
open Go.RowKit Go.Proofs.YtfialmegikegbaaW.PrintWords Go.Proofs.YtfialmegikegbaaW.PrintLast Go.Proofs.YtfialmegikegbaaW.PrintMore Go.Proofs.YtfialmegikegbaaEv Go.Proofs.YtfialmegikegbaaMath Go.Proofs.YtfialmegikegbaaSlot Go.Proofs.Ytfialmegikegbaa.P Go.Proofs.YtfialmegikegbaaW.Abbr

theorem rput_small (k n : Nat) (h : n ≤ 240) : withyref01_Put.f k (IntKind.u64.wrap (n : Int)) = some (putS n) := by
  rw [u64_id (by omega) (by omega)]
  unfold withyref01_Put.f
  rw [if_pos (by omega), putS_of]
theorem rfour_eq (n : Nat) (h : n < 4294967296) : withyref01_Four.f (n : Int) = some (fourB n) := by
  unfold withyref01_Four.f fourB
  rw [Int.tmod_eq_emod_of_nonneg (by omega), Int.tdiv_eq_ediv_of_nonneg (by omega), Int.tdiv_eq_ediv_of_nonneg (by omega), Int.tdiv_eq_ediv_of_nonneg (by omega)]
  rw [show ((n : Int) % 256) % 256 = (n : Int) % 256 by omega, show (n : Int) / 256 % 4294967296 % 256 = (n : Int) / 256 % 256 by omega, show (n : Int) / 65536 % 4294967296 % 256 = (n : Int) / 65536 % 256 by omega, show (n : Int) / 16777216 % 4294967296 % 256 = (n : Int) / 16777216 % 256 by omega]
theorem rkid_ev (kid : Nat) (s : ByteArray) (h1 : 1 ≤ kid) (h2 : kid < 4096) (hs : s.size ≤ 128) : Ev (fun k => withyref09_PutKid.f k (kid : Int) s) (kidC kid s, 0) := by
  unfold withyref09_PutKid.f
  refine ev_neg (by omega) (ev_neg (by omega) (ev_step ?_))
  simp only [withyref09_PutKid.j0]
  refine ev_neg (by simp; omega) ?_
  rw [show (kid : Int) % 4294967296 = (kid : Int) by omega]
  refine ev_bind_now (rfour_eq kid (by omega)) (ev_bind (ev_all fun k => rput_small k _ (by omega)) (ev_pos (by rw [fourB_size, putS_size]; omega) (ev_pos ?_ (ev_some' ?_))))
  · rw [size_append', fourB_size, putS_size]; omega
  · rw [append_assoc']; rfl
theorem rcells_loop (k0 : Nat) (ks : List Nat) (rest : List ByteArray) (hl : ks.length = rest.length) (hn : rest.length ≤ 100000) (hk : ∀ x ∈ k0 :: ks, 1 ≤ x ∧ x < 4096) (hs : ∀ s ∈ rest, s.size ≤ 128) (a b c : Int) (high : ByteArray) (l5 : List ByteArray) :
    ∀ (d i : Nat), i ≤ rest.length + 1 → rest.length + 1 - i = d →
    Ev (fun k => withyref11_Cells.l0 k rest ((cellsOf (k0 :: ks) rest).take i) (i : Int) a b c high ((k0 :: ks).map (fun x : Nat => (x : Int))) l5) (cellsOf (k0 :: ks) rest) := by
  intro d
  have hcl := cellsOf_length k0 ks rest hl
  have hil : (((k0 :: ks).map (fun x : Nat => (x : Int))).length : Int) = (rest.length : Int) + 1 := by simp [hl]
  induction d with
  | zero =>
    intro i h1 hd
    refine ev_step ?_
    simp only [withyref11_Cells.l0]
    rw [List.take_of_length_le (by omega)]
    exact ev_neg (by omega) ev_some
  | succ d ih =>
    intro i h1 hd
    refine ev_step ?_
    simp only [withyref11_Cells.l0]
    refine ev_pos (by omega) ?_
    have htl : ((cellsOf (k0 :: ks) rest).take i).length = i := by rw [List.length_take]; omega
    have hnext : ∀ x, (cellsOf (k0 :: ks) rest)[i]? = some x → (cellsOf (k0 :: ks) rest).take i ++ [x] = (cellsOf (k0 :: ks) rest).take (i + 1) := fun x hx => by rw [List.take_add_one, hx]; rfl
    cases i with
    | zero =>
      refine ev_neg (by omega) (ev_pos (by omega) ?_)
      have hk0 := hk k0 (List.mem_cons_self)
      have e : rd ((k0 :: ks).map (fun x : Nat => (x : Int))) ((0 : Nat) : Int) = (k0 : Int) := rfl
      rw [e]
      refine ev_bind (rkid_ev k0 ⟨#[]⟩ hk0.1 hk0.2 (by decide)) (ev_pos (by omega) ?_)
      rw [w64_succ (by omega)]
      have := ih 1 (by omega) (by omega)
      rw [← hnext _ (show (cellsOf (k0 :: ks) rest)[0]? = some (kidC k0 ⟨#[]⟩) from rfl)] at this
      exact this
    | succ j =>
      have hj : j < rest.length := by omega
      have hjk : j < ks.length := by omega
      refine ev_pos (by omega) ?_
      rw [w64 (x := ((j + 1 : Nat) : Int) - 1) (by omega) (by omega), show ((j + 1 : Nat) : Int) - 1 = (j : Int) by omega]
      refine ev_pos (by omega) (ev_pos (by omega) (ev_pos (by omega) ?_))
      rw [rdOf_nat _ rest j hj]
      have hkj := hk ks[j] (List.mem_cons_of_mem _ (List.getElem_mem hjk))
      have e : rd ((k0 :: ks).map (fun x : Nat => (x : Int))) ((j + 1 : Nat) : Int) = (ks[j] : Int) := by
        rw [rd_nat _ (j + 1) (by simp; omega)]
        simp
      rw [e]
      refine ev_bind (rkid_ev ks[j] rest[j] hkj.1 hkj.2 (hs _ (List.getElem_mem hj))) (ev_pos (by omega) ?_)
      rw [w64_succ (by omega)]
      have := ih (j + 2) (by omega) (by omega)
      rw [← hnext _ (cellsOf_get k0 ks rest j hjk hj)] at this
      exact this
theorem rsize_of (k0 : Nat) (ks : List Nat) (seps : List ByteArray) (high : ByteArray) (hl : ks.length = seps.length) (hk : ∀ x ∈ k0 :: ks, 1 ≤ x ∧ x < 4096) (hs : ∀ s ∈ seps, s.size ≤ 128) (hh : high.size ≤ 240) (hn : seps.length ≤ 100000) (a b c : Int) :
    Ev (fun k => withyref11_Size.f k a b c high ((k0 :: ks).map (fun x : Nat => (x : Int))) seps) (isz k0 ks seps high : Int) := by
  have hz := isz_le k0 ks seps high hl hs hh hn
  have h2 := stripped_snd_length seps
  have h3 : (stripped seps).1.size ≤ 240 := by
    rw [stripped_fst_size]
    cases seps with
    | nil => exact Nat.zero_le _
    | cons s r => exact Nat.le_trans (span_le_size (l := s :: r) (s := s) (List.mem_cons_self)) (Nat.le_trans (hs s (List.mem_cons_self)) (by omega))
  have hst : Ev (fun k => withyref05_Strip.f k seps) (stripped seps) := rstrip_ev seps (fun s h => Nat.le_trans (hs s h) (by omega)) (by omega)
  unfold withyref11_Size.f
  refine ev_bind (a := fixedB (stripped seps).1 high) ?_ (ev_bind (a := cellsOf (k0 :: ks) (stripped seps).2) ?_ (ev_bind (rsize_ev _ _ (by unfold isz at hz; omega)) ev_some))
  · unfold withyref11_Fixed.f
    refine ev_bind hst (ev_bind (ev_all fun k => rput_small k _ h3) (ev_pos (by rw [putS_size]; omega) (ev_bind (ev_all fun k => rput_small k _ hh) (ev_pos ?_ (ev_pos ?_ ev_some)))))
    · rw [size_append', putS_size, putS_size]; omega
    · rw [size_append', size_append', putS_size, putS_size]; omega
  · unfold withyref11_Cells.f
    refine ev_bind hst ?_
    exact rcells_loop k0 ks (stripped seps).2 (by omega) (by omega) hk (stripped_snd_size hs) a b c high seps _ 0 (by omega) rfl
end Go.Proofs.Ytfialmegikegbaa.Spec
