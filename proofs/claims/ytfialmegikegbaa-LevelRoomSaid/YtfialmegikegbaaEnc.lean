/- What is proved here: what the page of an inner page is, or what is wrong, as the program's printed function tells it, in plain words. Conditions: sizes within the form's reach. -/
import Derived.Test.YtfialmegikegbaaPS
import Derived.Test.YtfialmegikegbaaSep
import Derived.Test.YtfialmegikegbaaInner
import Derived.Test.YtfialmegikegbaaPack
import Derived.Test.YtfialmegikegbaaHSeal
set_option linter.unusedVariables false
set_option linter.unusedSimpArgs false
namespace Go.Proofs.Ytfialmegikegbaa.Spec
open Go.RowKit Go.Proofs.YtfialmegikegbaaW.PrintWords Go.Proofs.YtfialmegikegbaaW.PrintLast Go.Proofs.YtfialmegikegbaaW.PrintMore Go.Proofs.YtfialmegikegbaaEv Go.Proofs.YtfialmegikegbaaMath Go.Proofs.Ytfialmegikegbaa.P
def numOk (x : Int) : Bool := decide (1 ≤ x) && decide (x < 4096)
theorem number_eq (x : Int) : inner_number.f x = some (numOk x) := by
  unfold inner_number.f numOk
  by_cases h : x ≥ 1
  · rw [if_pos h, decide_eq_true (show 1 ≤ x from h)]; rfl
  · rw [if_neg h, decide_eq_false (show ¬ 1 ≤ x from h)]; rfl
def diskOk (p : Int) : Bool := decide (p = 128) || decide (p = 256) || decide (p = 512) || decide (p = 1024)
theorem disk_eq (p : Int) : disk_Size.f p = some (diskOk p) := rfl
theorem diskOk_iff (p : Int) : diskOk p = true ↔ p = 128 ∨ p = 256 ∨ p = 512 ∨ p = 1024 := by simp [diskOk, or_assoc]
theorem odd_any (l : List Int) : l.any inner_odd = !(l.all numOk) := by
  induction l with
  | nil => rfl
  | cons x r ih =>
    rw [List.any_cons, List.all_cons, ih]
    have : inner_odd x = !numOk x := rfl
    rw [this]
    cases numOk x <;> simp
/-- Seps that rise behind a, none longer than q, all below h where there is a page at the right. -/
def sepsOk (r : Int) (h : List UInt8) (q : Int) : List UInt8 → List ByteArray → Bool
  | _, [] => true
  | a, s :: l => lt a (L s) && (decide ((s.size : Int) ≤ q) && ((decide (r = 0) || lt (L s) h) && sepsOk r h q (L s) l))
theorem may_loop (a0 a1 r p : Int) (high : ByteArray) (kids : List Int) (seps l : List ByteArray) (hl : seps.length ≤ 140737488351232) : ∀ (d i : Nat) (a : ByteArray), i ≤ seps.length → seps.length - i = d →
    Ev (fun k => inner_May.l0 k p a seps (seps.length : Int) (i : Int) a0 a1 r high kids l) (sepsOk r (L high) (wrap64 (Int.tdiv p 8)) (L a) (seps.drop i)) := by
  intro d
  induction d with
  | zero =>
    intro i a h1 hd
    refine ev_step ?_
    simp only [inner_May.l0]
    refine ev_neg (by omega) (ev_some' ?_)
    rw [List.drop_of_length_le (by omega)]
    rfl
  | succ d ih =>
    intro i a h1 hd
    have hi : i < seps.length := by omega
    refine ev_step ?_
    simp only [inner_May.l0, L_toList]
    refine ev_pos (by omega) (ev_pos (by omega) (ev_pos (by omega) ?_))
    rw [rdOf_nat _ seps i hi, List.drop_eq_getElem_cons hi]
    simp only [sepsOk]
    have next : lt (L a) (L seps[i]) = true → ¬ (seps[i].size : Int) > wrap64 (Int.tdiv p 8) → (decide (r = 0) || lt (L seps[i]) (L high)) = true → Ev (fun k => inner_May.l0 k p seps[i] seps (seps.length : Int) (wrap64 ((i : Int) + 1)) a0 a1 r high kids l) (lt (L a) (L seps[i]) && (decide ((seps[i].size : Int) ≤ wrap64 (Int.tdiv p 8)) && ((decide (r = 0) || lt (L seps[i]) (L high)) && sepsOk r (L high) (wrap64 (Int.tdiv p 8)) (L seps[i]) (seps.drop (i + 1))))) := fun h2 h3 h4 => by
      rw [w64_succ (by omega)]
      refine ev_eq (ih (i + 1) seps[i] (by omega) (by omega)) ?_
      rw [h2, h4, decide_eq_true (show (seps[i].size : Int) ≤ wrap64 (Int.tdiv p 8) by omega)]
      rfl
    by_cases h2 : lt (L a) (L seps[i]) = true
    · refine ev_pos h2 ?_
      by_cases h3 : (seps[i].size : Int) > wrap64 (Int.tdiv p 8)
      · refine ev_pos h3 (ev_some' ?_)
        rw [decide_eq_false (show ¬ (seps[i].size : Int) ≤ wrap64 (Int.tdiv p 8) by omega)]
        simp
      · refine ev_neg h3 ?_
        by_cases h4 : r = 0
        · exact ev_pos h4 (next h2 h3 (by rw [decide_eq_true h4]; rfl))
        · refine ev_neg h4 ?_
          by_cases h5 : lt (L seps[i]) (L high) = true
          · exact ev_pos h5 (next h2 h3 (by rw [h5]; simp))
          · refine ev_neg h5 (ev_some' ?_)
            rw [show lt (L seps[i]) (L high) = false by simpa using h5, decide_eq_false h4]
            simp
    · refine ev_neg h2 (ev_some' ?_)
      rw [show lt (L a) (L seps[i]) = false by simpa using h2]
      rfl
theorem may_j1 (a0 a1 r p : Int) (high : ByteArray) (kids : List Int) (seps : List ByteArray) (hl : seps.length ≤ 140737488351232) (t : Bool) : Ev (fun k => inner_May.j1 k p t a0 a1 r high kids seps) (!t && sepsOk r (L high) (wrap64 (Int.tdiv p 8)) [] seps) := by
  refine ev_step ?_
  simp only [inner_May.j1]
  cases t with
  | true => exact ev_pos rfl (ev_some' rfl)
  | false => exact ev_neg (by decide) (ev_eq (may_loop a0 a1 r p high kids seps seps hl _ 0 ⟨#[]⟩ (Nat.zero_le _) rfl) (by rw [List.drop_zero]; rfl))
def mayRest (r : Int) (high : ByteArray) (kids : List Int) (seps : List ByteArray) (p : Int) : Bool :=
  decide ((kids.length : Int) = (seps.length : Int) + 1) && (kids.all numOk && (!((r == 0) != (L high == [])) && (decide ((high.size : Int) ≤ wrap64 (Int.tdiv p 8)) && sepsOk r (L high) (wrap64 (Int.tdiv p 8)) [] seps)))
theorem may_j0 (a0 a1 r p : Int) (high : ByteArray) (kids : List Int) (seps : List ByteArray) (hl : seps.length ≤ 140737488351232) (t : Bool) : Ev (fun k => inner_May.j0 k p t a0 a1 r high kids seps) (!t && mayRest r high kids seps p) := by
  have J := may_j1 a0 a1 r p high kids seps hl
  have B : Ev (fun k => inner_May.j1 k p true a0 a1 r high kids seps) false := J true
  refine ev_step ?_
  simp only [inner_May.j0, L_toList]
  cases t with
  | true => exact ev_pos rfl (ev_some' rfl)
  | false =>
    refine ev_neg (by decide) ?_
    rw [w64 (by omega) (by omega)]
    show Ev _ (mayRest r high kids seps p)
    unfold mayRest
    by_cases h1 : (kids.length : Int) = (seps.length : Int) + 1
    · rw [decide_eq_true h1]
      refine ev_pos h1 (ev_bind_now (show slices_ContainsFunc_int_int.f kids 48484848 = some (!(kids.all numOk)) by rw [← odd_any]; exact if_pos (by omega)) ?_)
      cases h2 : kids.all numOk with
      | false => exact ev_pos rfl B
      | true =>
        refine ev_neg (by decide) ?_
        cases h3 : ((r == 0) != (L high == [])) with
        | true => exact ev_pos rfl B
        | false =>
          refine ev_neg (by decide) (ev_eq (J _) ?_)
          by_cases h4 : (high.size : Int) > wrap64 (Int.tdiv p 8)
          · rw [decide_eq_true h4, decide_eq_false (show ¬ (high.size : Int) ≤ wrap64 (Int.tdiv p 8) by omega)]; rfl
          · rw [decide_eq_false h4, decide_eq_true (show (high.size : Int) ≤ wrap64 (Int.tdiv p 8) by omega)]; rfl
    · rw [decide_eq_false h1]
      exact ev_neg h1 B
def mayOk (a0 a1 r : Int) (high : ByteArray) (kids : List Int) (seps : List ByteArray) (p : Int) : Bool :=
  diskOk p && (numOk a0 && (decide (1 ≤ a1) && (decide (a1 < 256) && ((decide (r = 0) || numOk r) && (!(r == a0) && mayRest r high kids seps p)))))
theorem may_ev (a0 a1 r : Int) (high : ByteArray) (kids : List Int) (seps : List ByteArray) (p : Int) (hl : seps.length ≤ 140737488351232) : Ev (fun k => inner_May.f k a0 a1 r high kids seps p) (mayOk a0 a1 r high kids seps p) := by
  have J := may_j0 a0 a1 r p high kids seps hl
  have B : Ev (fun k => inner_May.j0 k p true a0 a1 r high kids seps) false := J true
  unfold inner_May.f mayOk
  refine ev_bind_now (disk_eq p) ?_
  cases h0 : diskOk p with
  | false => exact ev_neg (by decide) B
  | true =>
    refine ev_pos rfl (ev_bind_now (number_eq a0) ?_)
    cases h1 : numOk a0 with
    | false => exact ev_neg (by decide) B
    | true =>
      refine ev_pos rfl ?_
      by_cases h2 : a1 < 1
      · rw [decide_eq_false (show ¬ 1 ≤ a1 by omega)]
        exact ev_pos h2 B
      · rw [decide_eq_true (show 1 ≤ a1 by omega)]
        refine ev_neg h2 ?_
        by_cases h3 : a1 ≥ 256
        · rw [decide_eq_false (show ¬ a1 < 256 by omega)]
          exact ev_pos h3 B
        · rw [decide_eq_true (show a1 < 256 by omega)]
          refine ev_neg h3 ?_
          by_cases h4 : r = 0
          · rw [decide_eq_true h4]
            exact ev_pos h4 (J _)
          · rw [decide_eq_false h4]
            refine ev_neg h4 (ev_bind_now (number_eq r) ?_)
            cases h5 : numOk r with
            | false => exact ev_neg (by decide) B
            | true => exact ev_pos rfl (J _)
/-! ### what that says -/
theorem numOk_iff (x : Int) : numOk x = true ↔ 1 ≤ x ∧ x < 4096 := by simp [numOk]
theorem sepsOk_size {r : Int} {h : List UInt8} {q : Int} : ∀ {l : List ByteArray} {a : List UInt8}, sepsOk r h q a l = true → ∀ s ∈ l, (s.size : Int) ≤ q
  | [], _, _, s, hs => by cases hs
  | x :: l, a, e, s, hs => by
    simp only [sepsOk, Bool.and_eq_true, decide_eq_true_eq] at e
    rcases List.mem_cons.1 hs with rfl | hs
    · exact e.2.1
    · exact sepsOk_size e.2.2.2 s hs
theorem q8 {p : Int} (h : p = 128 ∨ p = 256 ∨ p = 512 ∨ p = 1024) : 8 * wrap64 (Int.tdiv p 8) = p := by
  rw [Int.tdiv_eq_ediv_of_nonneg (by omega), w64 (by omega) (by omega)]
  omega
theorem may_facts {a0 a1 r : Int} {high : ByteArray} {kids : List Int} {seps : List ByteArray} {p : Int} (h : mayOk a0 a1 r high kids seps p = true) :
    (p = 128 ∨ p = 256 ∨ p = 512 ∨ p = 1024) ∧ (1 ≤ a0 ∧ a0 < 4096) ∧ (1 ≤ a1 ∧ a1 < 256) ∧ (0 ≤ r ∧ r < 4096) ∧ r ≠ a0 ∧ kids.length = seps.length + 1 ∧ (∀ x ∈ kids, 1 ≤ x ∧ x < 4096) ∧ (r = 0 ↔ L high = []) ∧ 8 * (high.size : Int) ≤ p ∧ (∀ s ∈ seps, 8 * (s.size : Int) ≤ p) ∧ sepsOk r (L high) (wrap64 (Int.tdiv p 8)) [] seps = true := by
  simp only [mayOk, mayRest, Bool.and_eq_true, Bool.or_eq_true, decide_eq_true_eq, Bool.not_eq_true', beq_eq_false_iff_ne, ne_eq, numOk_iff, diskOk_iff, List.all_eq_true] at h
  obtain ⟨h0, h1, h2, h3, h4, h5, h6, h7, h8, h9, h10⟩ := h
  have hq := q8 h0
  have hs := sepsOk_size h10
  refine ⟨h0, h1, ⟨h2, h3⟩, by omega, h5, by omega, h7, ?_, by omega, fun s m => by have := hs s m; omega, h10⟩
  have : (r == 0) = (L high == []) := by simpa using h8
  rw [← beq_iff_eq, ← beq_iff_eq (a := L high), this]
theorem may_of {a0 a1 r : Int} {high : ByteArray} {kids : List Int} {seps : List ByteArray} {p : Int} (h0 : p = 128 ∨ p = 256 ∨ p = 512 ∨ p = 1024) (h1 : 1 ≤ a0 ∧ a0 < 4096) (h2 : 1 ≤ a1 ∧ a1 < 256) (h4 : 0 ≤ r ∧ r < 4096) (h5 : r ≠ a0) (h6 : kids.length = seps.length + 1) (h7 : ∀ x ∈ kids, 1 ≤ x ∧ x < 4096) (h8 : r = 0 ↔ L high = []) (h9 : 8 * (high.size : Int) ≤ p) (h10 : sepsOk r (L high) (wrap64 (Int.tdiv p 8)) [] seps = true) : mayOk a0 a1 r high kids seps p = true := by
  have hq := q8 h0
  simp only [mayOk, mayRest, Bool.and_eq_true, Bool.or_eq_true, decide_eq_true_eq, Bool.not_eq_true', beq_eq_false_iff_ne, ne_eq, numOk_iff, diskOk_iff, List.all_eq_true]
  refine ⟨h0, h1, h2.1, h2.2, by omega, h5, by omega, h7, ?_, by omega, h10⟩
  have : (r == 0) = (L high == []) := by
    rw [Bool.eq_iff_iff, beq_iff_eq, beq_iff_eq]
    exact h8
  rw [this]
  simp
end Go.Proofs.Ytfialmegikegbaa.Spec
namespace Go.Proofs.Ytfialmegikegbaa.Spec
open Go.RowKit Go.Proofs.YtfialmegikegbaaW.PrintWords Go.Proofs.YtfialmegikegbaaW.PrintLast Go.Proofs.YtfialmegikegbaaW.PrintMore Go.Proofs.YtfialmegikegbaaEv Go.Proofs.YtfialmegikegbaaMath Go.Proofs.YtfialmegikegbaaSlot Go.Proofs.Ytfialmegikegbaa.P Go.Proofs.YtfialmegikegbaaW.Abbr
theorem stripped_fst_le {seps : List ByteArray} {n : Nat} (hs : ∀ s ∈ seps, s.size ≤ n) : (stripped seps).1.size ≤ n := by
  rw [stripped_fst_size]
  cases seps with
  | nil => exact Nat.zero_le _
  | cons s r => exact Nat.le_trans (span_le_size (l := s :: r) (s := s) (List.mem_cons_self)) (hs s (List.mem_cons_self))
theorem parts_ev (k0 : Nat) (ks : List Nat) (seps : List ByteArray) (high : ByteArray) (hl : ks.length = seps.length) (hk : ∀ x ∈ k0 :: ks, 1 ≤ x ∧ x < 4096) (hs : ∀ s ∈ seps, s.size ≤ 128) (hh : high.size ≤ 240) (hn : seps.length ≤ 100000) (a b c : Int) :
    Ev (fun k => inner_parts.f k a b c high ((k0 :: ks).map (fun x : Nat => (x : Int))) seps) (fixedB (stripped seps).1 high, cellsOf (k0 :: ks) (stripped seps).2) := by
  have h2 := stripped_snd_length seps
  have h3 : (stripped seps).1.size ≤ 240 := stripped_fst_le fun s h => Nat.le_trans (hs s h) (by omega)
  unfold inner_parts.f
  refine ev_bind (strip_ev seps (fun s h => Nat.le_trans (hs s h) (by omega)) (by omega)) ?_
  have := parts_loop (stripped seps).1 high h3 hh k0 ks (stripped seps).2 (by omega) (by omega) hk (stripped_snd_size hs) a b c ((k0 :: ks).map (fun x : Nat => (x : Int))) seps _ 0 (by omega) rfl
  rw [h2] at this
  have e : (((k0 :: ks).map (fun x : Nat => (x : Int))).length : Int) = (seps.length : Int) + 1 := by simp [hl]
  rw [e]
  exact this
/-- The body of a page, with so much room; how many bytes it needs. -/
def inNeed (kids : List Int) (seps : List ByteArray) (high : ByteArray) : Nat := need (fixedB (stripped seps).1 high) (cellsOf (kids.map Int.toNat) (stripped seps).2)
def inBody (room : Nat) (kids : List Int) (seps : List ByteArray) (high : ByteArray) : ByteArray := body room (fixedB (stripped seps).1 high) (cellsOf (kids.map Int.toNat) (stripped seps).2)
def inHd (a0 a1 r : Int) (kids : List Int) : Go.Proofs.YtfialmegikegbaaHead.Hd := ⟨3, a1.toNat, kids.length, r.toNat, a0.toNat⟩
def inPage (a0 a1 r : Int) (high : ByteArray) (kids : List Int) (seps : List ByteArray) (p : Nat) : ByteArray := Go.Proofs.YtfialmegikegbaaHead.pageB (inHd a0 a1 r kids) (L (inBody (p - 16) kids seps high)) p
def enc (a0 a1 r : Int) (high : ByteArray) (kids : List Int) (seps : List ByteArray) (p : Int) : ByteArray × Int :=
  if diskOk p = true then (if mayOk a0 a1 r high kids seps p = true then (if (inNeed kids seps high : Int) ≤ p - 16 then (inPage a0 a1 r high kids seps p.toNat, 0) else (⟨#[]⟩, 8)) else (⟨#[]⟩, 3)) else (⟨#[]⟩, 4)
theorem cellsOf_len : ∀ (ks : List Nat) (rest : List ByteArray), ks.length = rest.length + 1 → (cellsOf ks rest).length = rest.length + 1
  | k :: ks, rest, h => cellsOf_length k ks rest (by simpa using h)
theorem nat_kids {kids : List Int} (h : ∀ x ∈ kids, 1 ≤ x ∧ x < 4096) : (kids.map Int.toNat).map (fun x : Nat => (x : Int)) = kids := by
  rw [List.map_map]
  refine (List.map_congr_left fun x hx => ?_).trans (List.map_id kids)
  have := h x hx
  show ((x.toNat : Nat) : Int) = id x
  simp only [id]
  omega
theorem size_cases {p : Int} (h : p = 128 ∨ p = 256 ∨ p = 512 ∨ p = 1024) : ∃ P : Nat, p = (P : Int) ∧ HSpec.Size P := by
  refine ⟨p.toNat, by omega, ?_⟩
  show p.toNat = 128 ∨ p.toNat = 256 ∨ p.toNat = 512 ∨ p.toNat = 1024
  omega
theorem need_len (f : ByteArray) (cs : List ByteArray) : 2 * cs.length ≤ need f cs := by unfold need; omega
theorem inNeed_isz (k0 : Nat) (ks : List Nat) (kids : List Int) (seps : List ByteArray) (high : ByteArray) (e : kids.map Int.toNat = k0 :: ks) : inNeed kids seps high = isz k0 ks seps high := by unfold inNeed isz; rw [e]
theorem enc_ev (a0 a1 r : Int) (high : ByteArray) (kids : List Int) (seps : List ByteArray) (p : Int) (hl : seps.length ≤ 100000) : Ev (fun k => inner_Encode.f k a0 a1 r high kids seps p) (enc a0 a1 r high kids seps p) := by
  unfold inner_Encode.f enc
  refine ev_bind_now (disk_eq p) ?_
  by_cases hd : diskOk p = true
  · rw [if_pos hd]
    refine ev_pos hd (ev_bind (may_ev a0 a1 r high kids seps p (by omega)) ?_)
    by_cases hm : mayOk a0 a1 r high kids seps p = true
    · rw [if_pos hm]
      refine ev_pos hm ?_
      obtain ⟨h0, h1, h2, h3, h4, h5, h6, h7, h8, h9, h10⟩ := may_facts hm
      obtain ⟨P, rfl, hP⟩ := size_cases h0
      have hb : P ≤ 1024 ∧ 128 ≤ P := by rcases hP with rfl | rfl | rfl | rfl <;> omega
      obtain ⟨k0, ks, ek⟩ : ∃ k0 ks, kids.map Int.toNat = k0 :: ks := by
        cases h : kids.map Int.toNat with
        | nil =>
          have h11 : (kids.map Int.toNat).length = 0 := by rw [h]; rfl
          rw [List.length_map] at h11
          omega
        | cons a b => exact ⟨a, b, rfl⟩
      have en := nat_kids h6
      have hlen : ks.length = seps.length := by have := congrArg List.length ek; simp at this; omega
      have hk : ∀ x ∈ k0 :: ks, 1 ≤ x ∧ x < 4096 := fun x hx => by
        rw [← ek] at hx
        obtain ⟨y, hy, rfl⟩ := List.mem_map.1 hx
        have := h6 y hy
        omega
      have hs : ∀ s ∈ seps, s.size ≤ 128 := fun s m => by have := h9 s m; omega
      have hh : high.size ≤ 240 := by omega
      have hz := isz_le k0 ks seps high hlen hs hh hl
      have ei := inNeed_isz k0 ks kids seps high ek
      have ep := parts_ev k0 ks seps high hlen hk hs hh hl a0 a1 r
      rw [← ek, en] at ep
      refine ev_bind ep ?_
      have ew : wrap64 ((P : Int) - 16) = ((P - 16 : Nat) : Int) := by rw [w64 (by omega) (by omega)]; omega
      rw [ew]
      have hneed : need (fixedB (stripped seps).1 high) (cellsOf (kids.map Int.toNat) (stripped seps).2) = inNeed kids seps high := rfl
      refine ev_bind (pack_ev ((P - 16 : Nat) : Int) (fixedB (stripped seps).1 high) (cellsOf (kids.map Int.toNat) (stripped seps).2) (by rw [hneed, ei]; omega)) ?_
      by_cases hf : (inNeed kids seps high : Int) ≤ (P : Int) - 16
      · rw [if_pos hf, packed_ok (room := P - 16) (f := (fixedB (stripped seps).1 high)) (cs := (cellsOf (kids.map Int.toNat) (stripped seps).2)) (by rw [hneed]; omega) (by omega)]
        refine ev_pos rfl ?_
        have hcl : (cellsOf (kids.map Int.toNat) (stripped seps).2).length = kids.length := by
          rw [cellsOf_len _ _ (by rw [List.length_map, stripped_snd_length]; omega), stripped_snd_length]
          omega
        have hnl := need_len (fixedB (stripped seps).1 high) (cellsOf (kids.map Int.toNat) (stripped seps).2)
        rw [hcl, hneed] at hnl
        have hbs : (body (P - 16) (fixedB (stripped seps).1 high) (cellsOf (kids.map Int.toNat) (stripped seps).2)).size = P - 16 := body_size (by rw [hneed]; omega)
        have ok : (inHd a0 a1 r kids).ok := by
          show 1 ≤ 3 ∧ 3 < 5 ∧ a1.toNat < 256 ∧ kids.length < 65536 ∧ r.toNat < 4096 ∧ a0.toNat < 4096
          omega
        have hseal := HSpec.sealed_of (x := inHd a0 a1 r kids) ok (b := body (P - 16) (fixedB (stripped seps).1 high) (cellsOf (kids.map Int.toNat) (stripped seps).2)) hP (by omega)
        have e1 : ((inHd a0 a1 r kids).l : Int) = a1 := by show ((a1.toNat : Nat) : Int) = a1; omega
        have e2 : ((inHd a0 a1 r kids).r : Int) = r := by show ((r.toNat : Nat) : Int) = r; omega
        have e3 : ((inHd a0 a1 r kids).s : Int) = a0 := by show ((a0.toNat : Nat) : Int) = a0; omega
        rw [e1, e2, e3] at hseal
        refine ev_bind (ev_eq (HSpec.seal_ev 3 a1 (kids.length : Int) r a0 (body (P - 16) (fixedB (stripped seps).1 high) (cellsOf (kids.map Int.toNat) (stripped seps).2)) (P : Int)) hseal) (ev_some' rfl)
      · rw [if_neg hf, packed_much (room := P - 16) (f := (fixedB (stripped seps).1 high)) (cs := (cellsOf (kids.map Int.toNat) (stripped seps).2)) (by rw [hneed]; omega) (by omega)]
        exact ev_neg (by decide) (ev_some' rfl)
    · rw [if_neg hm]
      exact ev_neg hm (ev_some' rfl)
  · rw [if_neg hd]
    exact ev_neg hd (ev_some' rfl)
end Go.Proofs.Ytfialmegikegbaa.Spec
