/- What is proved here: how many bytes a page of kids needs, as the program's printed functions tell it, for texts of at most 240 bytes. Conditions: sizes within the form's reach. -/
import Derived.Test.YtfialmegikegbaaPF
import Derived.Test.YtfialmegikegbaaSep
import Derived.Test.YtfialmegikegbaaNeed
import Derived.Test.YtfialmegikegbaaWAbbr
set_option linter.unusedVariables false
set_option linter.unusedSimpArgs false
namespace Go.Proofs.Ytfialmegikegbaa.Spec
open Go.RowKit Go.Proofs.YtfialmegikegbaaW.PrintWords Go.Proofs.YtfialmegikegbaaW.PrintLast Go.Proofs.YtfialmegikegbaaW.PrintMore Go.Proofs.YtfialmegikegbaaEv Go.Proofs.YtfialmegikegbaaMath Go.Proofs.YtfialmegikegbaaSlot Go.Proofs.Ytfialmegikegbaa.P Go.Proofs.YtfialmegikegbaaW.Abbr

theorem ev_all {α : Type} {g : Nat → Option α} {r : α} (h : ∀ k, g k = some r) : Ev g r := ⟨0, fun k _ => h k⟩
theorem append_assoc' (a b c : ByteArray) : (a ++ b) ++ c = a ++ (b ++ c) := L_inj (by simp only [L_append, List.append_assoc])
theorem size_append' (a b : ByteArray) : (a ++ b).size = a.size + b.size := by rw [← L_length, L_append, List.length_append, L_length, L_length]
/-- A number of one byte. -/
def putS (n : Nat) : ByteArray := ⟨#[UInt8.ofNat n]⟩
theorem putS_size (n : Nat) : (putS n).size = 1 := rfl
theorem putS_of (n : Nat) : strOfNums ([((n : Int)) % 256] : List Int) = putS n := by
  apply L_inj
  show (strOfNums _).data.toList = _
  rw [strOfNums_data]
  simp only [List.map_cons, List.map_nil]
  rw [show ((n : Int) % 256).toNat = n % 256 by omega]
  have : UInt8.ofNat (n % 256) = UInt8.ofNat n := by rw [← UInt8.toNat_inj]; simp
  rw [this]
  rfl
theorem wput_small (k n : Nat) (h : n ≤ 240) : word_Put.f k (IntKind.u64.wrap (n : Int)) = some (putS n) := by
  rw [u64_id (by omega) (by omega)]
  unfold word_Put.f
  rw [if_pos (by omega), putS_of]
def fourB (n : Nat) : ByteArray := strOfNums ([(n : Int) % 256, ((n : Int) / 256) % 256, ((n : Int) / 65536) % 256, ((n : Int) / 16777216) % 256] : List Int)
theorem fourB_size (n : Nat) : (fourB n).size = 4 := by
  unfold fourB
  rw [← L_length]
  show (strOfNums _).data.toList.length = _
  rw [strOfNums_data]
  rfl
theorem four_eq (n : Nat) : word_Four.f (n : Int) = some (fourB n) := rfl
/-- A kid's cell. -/
def kidC (kid : Nat) (s : ByteArray) : ByteArray := fourB kid ++ (putS s.size ++ s)
theorem kidC_size (kid : Nat) (s : ByteArray) : (kidC kid s).size = 5 + s.size := by
  unfold kidC
  rw [size_append', size_append', fourB_size, putS_size]
  omega
theorem text_ev (s : ByteArray) (h : s.size ≤ 240) : Ev (fun k => cell_text.f k s) (putS s.size ++ s) := by
  unfold cell_text.f
  exact ev_bind (ev_all fun k => wput_small k _ h) (ev_pos (by rw [putS_size]; omega) ev_some)
theorem kid_ev (kid : Nat) (s : ByteArray) (h1 : 1 ≤ kid) (h2 : kid < 4096) (hs : s.size ≤ 128) : Ev (fun k => cell_PutKid.f k (kid : Int) s) (kidC kid s, 0) := by
  unfold cell_PutKid.f cell_page.f
  refine ev_bind_now (show (if (kid : Int) ≥ 1 then some (decide ((kid : Int) < 4096)) else some false) = some true by rw [if_pos (by omega)]; simp; omega) (ev_pos rfl (ev_step ?_))
  simp only [cell_PutKid.j0]
  refine ev_neg (by simp; omega) ?_
  rw [show (kid : Int) % 4294967296 = (kid : Int) by omega]
  refine ev_bind_now (four_eq kid) (ev_bind (text_ev s (by omega)) (ev_pos ?_ ev_some))
  rw [fourB_size, size_append', putS_size]
  omega
/-- The cells of kids: the first one's text is empty. -/
def cellsOf : List Nat → List ByteArray → List ByteArray
  | [], _ => []
  | k :: ks, rest => kidC k ⟨#[]⟩ :: List.zipWith kidC ks rest
theorem cellsOf_length (k : Nat) (ks : List Nat) (rest : List ByteArray) (h : ks.length = rest.length) : (cellsOf (k :: ks) rest).length = rest.length + 1 := by
  simp [cellsOf, List.length_zipWith, h]
theorem cellsOf_get (k : Nat) (ks : List Nat) (rest : List ByteArray) (i : Nat) (hi : i < ks.length) (hr : i < rest.length) : (cellsOf (k :: ks) rest)[i + 1]? = some (kidC ks[i] rest[i]) := by
  simp [cellsOf, List.getElem?_zipWith, List.getElem?_eq_getElem hi, List.getElem?_eq_getElem hr]
def fixedB (all high : ByteArray) : ByteArray := ((putS all.size ++ all) ++ putS high.size) ++ high
theorem fixedB_size (all high : ByteArray) : (fixedB all high).size = 2 + all.size + high.size := by
  unfold fixedB
  rw [size_append', size_append', size_append', putS_size, putS_size]
  omega
theorem parts_loop (all high : ByteArray) (ha : all.size ≤ 240) (hh : high.size ≤ 240) (k0 : Nat) (ks : List Nat) (rest : List ByteArray) (hl : ks.length = rest.length) (hn : rest.length ≤ 100000) (hk : ∀ x ∈ k0 :: ks, 1 ≤ x ∧ x < 4096) (hs : ∀ s ∈ rest, s.size ≤ 128) (a b c : Int) (l4 : List Int) (l5 : List ByteArray) :
    ∀ (d i : Nat), i ≤ rest.length + 1 → rest.length + 1 - i = d →
    Ev (fun k => inner_parts.l0 k all rest ((cellsOf (k0 :: ks) rest).take i) ((k0 :: ks).map (fun x : Nat => (x : Int))) ((rest.length : Int) + 1) (i : Int) a b c high l4 l5) (fixedB all high, cellsOf (k0 :: ks) rest) := by
  intro d
  have hcl := cellsOf_length k0 ks rest hl
  induction d with
  | zero =>
    intro i h1 hd
    refine ev_step ?_
    simp only [inner_parts.l0]
    refine ev_neg (by omega) ?_
    rw [List.take_of_length_le (by omega)]
    refine ev_bind (ev_all fun k => wput_small k _ ha) (ev_pos (by rw [putS_size]; omega) (ev_bind (ev_all fun k => wput_small k _ hh) (ev_pos ?_ (ev_pos ?_ ev_some))))
    · rw [size_append', putS_size, putS_size]; omega
    · rw [size_append', size_append', putS_size, putS_size]; omega
  | succ d ih =>
    intro i h1 hd
    refine ev_step ?_
    simp only [inner_parts.l0]
    have hil : (((k0 :: ks).map (fun x : Nat => (x : Int))).length : Int) = (rest.length : Int) + 1 := by simp [hl]
    refine ev_pos (by omega) (ev_pos (by omega) (ev_pos (by omega) ?_))
    have htl : ((cellsOf (k0 :: ks) rest).take i).length = i := by rw [List.length_take]; omega
    have hnext : ∀ x, (cellsOf (k0 :: ks) rest)[i]? = some x → (cellsOf (k0 :: ks) rest).take i ++ [x] = (cellsOf (k0 :: ks) rest).take (i + 1) := fun x hx => by rw [List.take_add_one, hx]; rfl
    cases i with
    | zero =>
      refine ev_neg (by omega) ?_
      have hk0 := hk k0 (List.mem_cons_self)
      have e : rd ((k0 :: ks).map (fun x : Nat => (x : Int))) ((0 : Nat) : Int) = (k0 : Int) := rfl
      rw [e]
      refine ev_bind (kid_ev k0 ⟨#[]⟩ hk0.1 hk0.2 (by decide)) (ev_pos (by omega) ?_)
      rw [w64_succ (by omega)]
      have := ih 1 (by omega) (by omega)
      rw [← hnext _ (show (cellsOf (k0 :: ks) rest)[0]? = some (kidC k0 ⟨#[]⟩) from rfl)] at this
      exact this
    | succ j =>
      have hj : j < rest.length := by omega
      have hjk : j < ks.length := by omega
      refine ev_pos (by omega) ?_
      rw [w64 (x := ((j + 1 : Nat) : Int) - 1) (by omega) (by omega), show ((j + 1 : Nat) : Int) - 1 = (j : Int) by omega]
      refine ev_pos (by omega) (ev_pos (by omega) ?_)
      rw [rdOf_nat _ rest j hj]
      have hkj := hk ks[j] (List.mem_cons_of_mem _ (List.getElem_mem hjk))
      have e : rd ((k0 :: ks).map (fun x : Nat => (x : Int))) ((j + 1 : Nat) : Int) = (ks[j] : Int) := by
        rw [rd_nat _ (j + 1) (by simp; omega)]
        simp
      rw [e]
      refine ev_bind (kid_ev ks[j] rest[j] hkj.1 hkj.2 (hs _ (List.getElem_mem hj))) (ev_pos (by omega) ?_)
      rw [w64_succ (by omega)]
      have := ih (j + 2) (by omega) (by omega)
      rw [← hnext _ (cellsOf_get k0 ks rest j hjk hj)] at this
      exact this
/-- What a page needs. -/
def isz (k0 : Nat) (ks : List Nat) (seps : List ByteArray) (high : ByteArray) : Nat := need (fixedB (stripped seps).1 high) (cellsOf (k0 :: ks) (stripped seps).2)
theorem stripped_fst_size (seps : List ByteArray) : (stripped seps).1.size = span (seps.map L) := by
  cases seps with
  | nil => rfl
  | cons s r =>
    show (s.extract 0 (span ((s :: r).map L))).size = _
    have := span_le_size (l := s :: r) (s := s) (List.mem_cons_self)
    rw [size_extract]
    omega
theorem stripped_snd_length (seps : List ByteArray) : (stripped seps).2.length = seps.length := by simp [stripped]
theorem stripped_snd_size {seps : List ByteArray} {n : Nat} (h : ∀ s ∈ seps, s.size ≤ n) : ∀ s ∈ (stripped seps).2, s.size ≤ n := by
  intro s hs
  simp only [stripped, List.mem_map] at hs
  obtain ⟨x, hx, rfl⟩ := hs
  have := h x hx
  rw [size_extract]
  omega
theorem cat_zip : ∀ (ks : List Nat) (rest : List ByteArray), ks.length = rest.length → (cat (List.zipWith kidC ks rest)).length = 5 * rest.length + (rest.map (·.size)).sum
  | [], [], _ => rfl
  | k :: ks, s :: rest, h => by
    rw [List.zipWith_cons_cons, cat_cons, List.length_append, L_length, kidC_size, cat_zip ks rest (by simpa using h)]
    simp only [List.length_cons, List.map_cons, List.sum_cons]
    omega
theorem isz_eq (k0 : Nat) (ks : List Nat) (seps : List ByteArray) (high : ByteArray) (hl : ks.length = seps.length) :
    isz k0 ks seps high = 11 + span (seps.map L) + high.size + 7 * seps.length + ((stripped seps).2.map (·.size)).sum := by
  have h2 := stripped_snd_length seps
  unfold isz need
  rw [fixedB_size, stripped_fst_size, cellsOf_length _ _ _ (by omega)]
  show _ + (cat (kidC k0 ⟨#[]⟩ :: List.zipWith kidC ks (stripped seps).2)).length + _ = _
  rw [cat_cons, List.length_append, L_length, kidC_size, cat_zip _ _ (by omega), h2]
  show _ + (5 + 0 + _) + _ = _
  omega
theorem sum_le {n : Nat} : ∀ (l : List ByteArray), (∀ s ∈ l, s.size ≤ n) → (l.map (·.size)).sum ≤ l.length * n
  | [], _ => by simp
  | s :: l, h => by
    have h1 := h s (List.mem_cons_self)
    have h2 := sum_le l (fun x hx => h x (List.mem_cons_of_mem _ hx))
    simp only [List.map_cons, List.sum_cons, List.length_cons, Nat.succ_mul]
    omega
theorem isz_le (k0 : Nat) (ks : List Nat) (seps : List ByteArray) (high : ByteArray) (hl : ks.length = seps.length) (hs : ∀ s ∈ seps, s.size ≤ 128) (hh : high.size ≤ 240) (hn : seps.length ≤ 100000) : isz k0 ks seps high ≤ 100000000 := by
  rw [isz_eq _ _ _ _ hl]
  have h1 := sum_le _ (stripped_snd_size hs)
  have h2 : span (seps.map L) ≤ 128 := by
    cases seps with
    | nil => exact Nat.zero_le _
    | cons s r => exact Nat.le_trans (span_le_size (l := s :: r) (s := s) (List.mem_cons_self)) (hs s (List.mem_cons_self))
  have h3 := stripped_snd_length seps
  rw [h3] at h1
  omega
theorem size_ev (k0 : Nat) (ks : List Nat) (seps : List ByteArray) (high : ByteArray) (hl : ks.length = seps.length) (hk : ∀ x ∈ k0 :: ks, 1 ≤ x ∧ x < 4096) (hs : ∀ s ∈ seps, s.size ≤ 128) (hh : high.size ≤ 240) (hn : seps.length ≤ 100000) (a b c : Int) :
    Ev (fun k => inner_Size.f k a b c high ((k0 :: ks).map (fun x : Nat => (x : Int))) seps) (isz k0 ks seps high : Int) := by
  have hz := isz_le k0 ks seps high hl hs hh hn
  have h2 := stripped_snd_length seps
  have h3 : (stripped seps).1.size ≤ 240 := by
    rw [stripped_fst_size]
    cases seps with
    | nil => exact Nat.zero_le _
    | cons s r => exact Nat.le_trans (span_le_size (l := s :: r) (s := s) (List.mem_cons_self)) (Nat.le_trans (hs s (List.mem_cons_self)) (by omega))
  unfold inner_Size.f inner_parts.f
  refine ev_bind (a := (fixedB (stripped seps).1 high, cellsOf (k0 :: ks) (stripped seps).2)) ?_ (ev_bind_now (size_eq _ _ (by show need (fixedB (stripped seps).1 high) (cellsOf (k0 :: ks) (stripped seps).2) ≤ _; unfold isz at hz; omega)) ev_some)
  refine ev_bind (strip_ev seps (fun s h => Nat.le_trans (hs s h) (by omega)) (by omega)) ?_
  have := parts_loop (stripped seps).1 high h3 hh k0 ks (stripped seps).2 (by omega) (by omega) hk (stripped_snd_size hs) a b c ((k0 :: ks).map (fun x : Nat => (x : Int))) seps _ 0 (by omega) rfl
  rw [h2] at this
  have e : (((k0 :: ks).map (fun x : Nat => (x : Int))).length : Int) = (seps.length : Int) + 1 := by simp [hl]
  rw [e]
  exact this
end Go.Proofs.Ytfialmegikegbaa.Spec
