/- What is proved here: a value's parts; the law's own fixed calls. Conditions: sizes within the form's reach. -/
import Derived.Test.YtggfnlnonigkiaaGreatDoorHSeal
import Derived.Test.YtggfnlnonigkiaaGreatDoorPS
import Derived.Test.YtggfnlnonigkiaaGreatDoorHOpen
set_option linter.unusedVariables false
set_option linter.unusedSimpArgs false
namespace Go.Proofs.YtggfnlnonigkiaaGreatDoor.HSpec
open Go.RowKit Go.Proofs.YtggfnlnonigkiaaGreatDoorW.PrintWords Go.Proofs.YtggfnlnonigkiaaGreatDoorW.PrintLast Go.Proofs.YtggfnlnonigkiaaGreatDoorW.PrintMore Go.Proofs.YtggfnlnonigkiaaGreatDoorEv Go.Proofs.YtggfnlnonigkiaaGreatDoorSum Go.Proofs.YtggfnlnonigkiaaGreatDoorHead Go.Proofs.YtggfnlnonigkiaaGreatDoor.P
def repB (b n : Nat) : ByteArray := ⟨(List.replicate n (UInt8.ofNat b)).toArray⟩
theorem repB_zero (n : Nat) : repB 0 n = zerosB n := rfl
theorem repB_L (b n : Nat) : L (repB b n) = List.replicate n (UInt8.ofNat b) := L_mk _
theorem repB_size (b n : Nat) : (repB b n).size = n := by unfold repB; rw [size_mk, List.length_replicate]
theorem rrepeat_loop (b n : Nat) (h : n ≤ 140737488300000) : ∀ (d i : Nat), i ≤ n → n - i = d → Ev (fun k => withyref01_Repeat.l0 k (b : Int) (n : Int) (List.replicate i (b : Int)) (i : Int)) (repB b n) := by
  intro d
  induction d with
  | zero =>
    intro i h1 hd
    obtain rfl : i = n := by omega
    refine ev_step ?_
    simp only [withyref01_Repeat.l0]
    refine ev_neg (by omega) (ev_some' (L_inj ?_))
    rw [repB_L]
    show (strOfNums _).data.toList = _
    rw [strOfNums_data, List.map_replicate]
    rfl
  | succ d ih =>
    intro i h1 hd
    refine ev_step ?_
    simp only [withyref01_Repeat.l0]
    refine ev_pos (by omega) (ev_pos (by simp; omega) ?_)
    rw [w64_succ (by omega), ← List.replicate_succ']
    exact ih (i + 1) (by omega) (by omega)
theorem rrepeat_ev (b n : Nat) (h : n ≤ 140737488300000) : Ev (fun k => withyref01_Repeat.f k (b : Int) (n : Int)) (repB b n) := by
  unfold withyref01_Repeat.f
  exact rrepeat_loop b n h n 0 (Nat.zero_le _) rfl
end Go.Proofs.YtggfnlnonigkiaaGreatDoor.HSpec
namespace Go.Proofs.YtggfnlnonigkiaaGreatDoor.Spec
open Go.RowKit Go.Proofs.YtggfnlnonigkiaaGreatDoorW.PrintWords Go.Proofs.YtggfnlnonigkiaaGreatDoorW.PrintLast Go.Proofs.YtggfnlnonigkiaaGreatDoorW.PrintMore Go.Proofs.YtggfnlnonigkiaaGreatDoorEv Go.Proofs.YtggfnlnonigkiaaGreatDoorSum Go.Proofs.YtggfnlnonigkiaaGreatDoorHead Go.Proofs.YtggfnlnonigkiaaGreatDoor.P Go.Proofs.YtggfnlnonigkiaaGreatDoor.HSpec
/-! ### whether one may be -/
def diskOk (p : Int) : Bool := decide (p = 128) || decide (p = 256) || decide (p = 512) || decide (p = 1024)
theorem diskOk_iff (p : Int) : diskOk p = true ↔ p = 128 ∨ p = 256 ∨ p = 512 ∨ p = 1024 := by simp [diskOk, or_assoc]
theorem disk_eq (p : Int) : disk_Size.f p = some (diskOk p) := rfl
def Full (n : Int) (d : ByteArray) (room : Int) : Prop := (n = 0 → 1 ≤ d.size ∧ (d.size : Int) ≤ room) ∧ (n ≠ 0 → (d.size : Int) = room)
def Ok (s n : Int) (d : ByteArray) (p : Int) : Prop := (p = 128 ∨ p = 256 ∨ p = 512 ∨ p = 1024) ∧ (1 ≤ s ∧ s < 4096) ∧ (0 ≤ n ∧ n < 4096) ∧ n ≠ s ∧ Full n d (p - 16)
instance (n : Int) (d : ByteArray) (room : Int) : Decidable (Full n d room) := by unfold Full; exact inferInstance
instance (s n : Int) (d : ByteArray) (p : Int) : Decidable (Ok s n d p) := by unfold Ok; exact inferInstance
theorem full_eq (s n : Int) (d : ByteArray) (room : Int) : chain_Chain_full.f s n d room = some (decide (Full n d room)) := by
  unfold chain_Chain_full.f
  by_cases h : n = 0
  · rw [if_pos h]
    by_cases h1 : (d.size : Int) ≥ 1
    · rw [if_pos h1]
      refine congrArg some ?_
      rw [Bool.eq_iff_iff, decide_eq_true_eq, decide_eq_true_eq]
      unfold Full
      exact ⟨fun q => ⟨fun _ => ⟨by omega, q⟩, fun q2 => absurd h q2⟩, fun q => (q.1 h).2⟩
    · rw [if_neg h1, decide_eq_false (fun q => h1 (by have := (q.1 h).1; omega))]
  · rw [if_neg h]
    refine congrArg some ?_
    rw [Bool.eq_iff_iff, decide_eq_true_eq, beq_iff_eq]
    unfold Full
    exact ⟨fun q => ⟨fun q2 => absurd q2 h, fun _ => q⟩, fun q => q.2 h⟩
theorem w16 {p : Int} (h : p = 128 ∨ p = 256 ∨ p = 512 ∨ p = 1024) : wrap64 (p - 16) = p - 16 := w64 (by omega) (by omega)
theorem may_eq (s n : Int) (d : ByteArray) (p : Int) : chain_May.f s n d p = some (decide (Ok s n d p)) := by
  unfold chain_May.f
  rw [disk_eq, Option.bind_some]
  by_cases h0 : diskOk p = true
  · have h0' := (diskOk_iff p).1 h0
    rw [if_pos h0]
    by_cases h1 : s ≥ 1
    · rw [if_pos h1]
      by_cases h2 : s < 4096
      · rw [if_pos h2]
        by_cases h3 : n ≥ 0
        · rw [if_pos h3]
          by_cases h4 : n < 4096
          · rw [if_pos h4]
            by_cases h5 : n = s
            · rw [if_pos h5, decide_eq_false (fun q => q.2.2.2.1 h5)]
            · rw [if_neg h5, w16 h0', full_eq, Option.bind_some]
              refine congrArg some ?_
              rw [Bool.eq_iff_iff, decide_eq_true_eq, decide_eq_true_eq]
              exact ⟨fun q => ⟨h0', ⟨h1, h2⟩, ⟨h3, h4⟩, h5, q⟩, fun q => q.2.2.2.2⟩
          · rw [if_neg h4, decide_eq_false (fun q => h4 q.2.2.1.2)]
        · rw [if_neg h3, decide_eq_false (fun q => h3 q.2.2.1.1)]
      · rw [if_neg h2, decide_eq_false (fun q => h2 q.2.1.2)]
    · rw [if_neg h1, decide_eq_false (fun q => h1 q.2.1.1)]
  · rw [if_neg h0, decide_eq_false (fun q => h0 ((diskOk_iff p).2 q.1))]
/-! ### its page -/
def chHd (s n : Int) (d : ByteArray) : Hd := ⟨4, 0, d.size, n.toNat, s.toNat⟩
def chPage (s n : Int) (d : ByteArray) (p : Int) : ByteArray := pageB (chHd s n d) (L d) p.toNat
def chEnc (s n : Int) (d : ByteArray) (p : Int) : ByteArray × Int :=
  if diskOk p = true then (if Ok s n d p then (chPage s n d p, 0) else (⟨#[]⟩, 3)) else (⟨#[]⟩, 4)
theorem ok_size {s n : Int} {d : ByteArray} {p : Int} (h : Ok s n d p) : ∃ P : Nat, p = (P : Int) ∧ Size P ∧ d.size + 16 ≤ P ∧ P ≤ 1024 ∧ p.toNat = P := by
  obtain ⟨h0, h1, h2, h3, h4, h5⟩ := h
  refine ⟨p.toNat, by omega, ?_, ?_, by omega, rfl⟩
  · show p.toNat = 128 ∨ p.toNat = 256 ∨ p.toNat = 512 ∨ p.toNat = 1024
    omega
  · by_cases h : n = 0
    · have := h4 h; omega
    · have := h5 h; omega
theorem ok_hd {s n : Int} {d : ByteArray} {p : Int} (h : Ok s n d p) : (chHd s n d).ok := by
  obtain ⟨P, rfl, hP, hd, hp, _⟩ := ok_size h
  obtain ⟨h0, h1, h2, h3, h4⟩ := h
  show 1 ≤ 4 ∧ 4 < 5 ∧ 0 < 256 ∧ d.size < 65536 ∧ n.toNat < 4096 ∧ s.toNat < 4096
  omega
theorem enc_ev (s n : Int) (d : ByteArray) (p : Int) : Ev (fun k => chain_Encode.f k s n d p) (chEnc s n d p) := by
  unfold chain_Encode.f chEnc
  refine ev_bind_now (disk_eq p) ?_
  by_cases h0 : diskOk p = true
  · rw [if_pos h0]
    refine ev_pos h0 (ev_bind_now (may_eq s n d p) ?_)
    by_cases h1 : Ok s n d p
    · rw [if_pos h1]
      obtain ⟨P, rfl, hP, hd, hp, et⟩ := ok_size h1
      have hk := ok_hd h1
      have e1 := h1.2.1
      have e2 := h1.2.2.1
      have hs := sealed_of (x := chHd s n d) hk (b := d) hP hd
      have q1 : ((chHd s n d).r : Int) = n := by show ((n.toNat : Nat) : Int) = n; omega
      have q2 : ((chHd s n d).s : Int) = s := by show ((s.toNat : Nat) : Int) = s; omega
      rw [q1, q2] at hs
      refine ev_pos (decide_eq_true h1) (ev_bind (ev_eq (seal_ev 4 0 (d.size : Int) n s d (P : Int)) hs) (ev_some' ?_))
      unfold chPage
      rw [et]
    · rw [if_neg h1]
      exact ev_neg (by rw [decide_eq_false h1]; exact Bool.false_ne_true) ev_some
  · rw [if_neg h0]
    exact ev_neg h0 ev_some
theorem enc_ok {s n : Int} {d : ByteArray} {p : Int} (h : Ok s n d p) : chEnc s n d p = (chPage s n d p, 0) := by
  unfold chEnc
  rw [if_pos ((diskOk_iff p).2 h.1), if_pos h]
theorem enc_bad {s n : Int} {d : ByteArray} {p : Int} (h0 : diskOk p = true) (h : ¬ Ok s n d p) : chEnc s n d p = (⟨#[]⟩, 3) := by
  unfold chEnc
  rw [if_pos h0, if_neg h]
theorem page_size {s n : Int} {d : ByteArray} {p : Int} (h : Ok s n d p) : ((chPage s n d p).size : Int) = p := by
  obtain ⟨P, rfl, hP, hd, hp, et⟩ := ok_size h
  unfold chPage
  rw [et, pageB_size (by rw [L_length]; omega)]
/-! ### bytes 0 at the ends -/
theorem right_ev : ∀ (m : Nat) (t : ByteArray), t.size = m → t.size ≤ 140737488300000 → ∃ t', Ev (fun k => strings_trimRightByte.l0 k t 0) t' ∧ (∃ n, L t = L t' ++ List.replicate n 0) ∧ (t'.size = 0 ∨ (L t').getD (t'.size - 1) 0 ≠ 0) := by
  intro m
  induction m with
  | zero =>
    intro t ht hb
    refine ⟨t, ev_step ?_, ⟨0, by simp⟩, .inl ht⟩
    simp only [strings_trimRightByte.l0]
    exact ev_neg (by omega) ev_some
  | succ m ih =>
    intro t ht hb
    have hw : wrap64 ((t.size : Int) - 1) = (m : Int) := by rw [w64 (by omega) (by omega)]; omega
    have hb2 : bt t (m : Int) = (((L t).getD m 0).toNat : Int) := bt_getD t m
    have hl : m < (L t).length := by rw [L_length]; omega
    by_cases h0 : (L t).getD m 0 = 0
    · have hx : (t.extract 0 m).size = m := by rw [size_extract]; omega
      obtain ⟨t', e1, ⟨n, e2⟩, e3⟩ := ih (t.extract 0 m) hx (by omega)
      refine ⟨t', ev_step ?_, ⟨n + 1, ?_⟩, e3⟩
      · simp only [strings_trimRightByte.l0]
        rw [hw, hb2, h0, Int.toNat_natCast]
        exact ev_pos (by omega) (ev_pos (by omega) (ev_pos (by omega) (ev_pos rfl (ev_pos (by omega) e1))))
      · rw [L_to] at e2
        have e4 : L t = (L t).take m ++ [0] := by
          have := List.take_append_drop m (L t)
          rw [List.drop_eq_getElem_cons hl, List.drop_of_length_le (by rw [L_length]; omega)] at this
          have h5 : (L t)[m] = 0 := by rw [List.getD_eq_getElem?_getD, List.getElem?_eq_getElem hl] at h0; exact h0
          rw [h5] at this
          exact this.symm
        rw [e4, e2, List.replicate_succ', List.append_assoc]
    · refine ⟨t, ev_step ?_, ⟨0, by simp⟩, .inr (by rw [ht]; exact h0)⟩
      simp only [strings_trimRightByte.l0]
      rw [hw, hb2]
      refine ev_pos (by omega) (ev_pos (by omega) (ev_pos (by omega) (ev_neg (fun q => h0 ?_) ev_some)))
      rw [← UInt8.toNat_inj]
      have : ((0 : UInt8).toNat) = 0 := rfl
      omega
theorem left_ev : ∀ (m : Nat) (t : ByteArray), t.size = m → t.size ≤ 140737488300000 → ∃ t', Ev (fun k => strings_trimLeftByte.l0 k t 0) t' ∧ (L t' = [] ↔ ∀ b ∈ L t, b = 0) := by
  intro m
  induction m with
  | zero =>
    intro t ht hb
    have hn : L t = [] := List.eq_nil_of_length_eq_zero (by rw [L_length]; exact ht)
    refine ⟨t, ev_step ?_, ?_⟩
    · simp only [strings_trimLeftByte.l0]
      exact ev_neg (by omega) ev_some
    · rw [hn]; simp
  | succ m ih =>
    intro t ht hb
    have hb2 : bt t 0 = (((L t).getD 0 0).toNat : Int) := bt_getD t 0
    have hl : 0 < (L t).length := by rw [L_length]; omega
    have hc : L t = (L t).getD 0 0 :: (L t).drop 1 := by
      have := List.drop_eq_getElem_cons hl
      rw [List.drop_zero] at this
      rw [List.getD_eq_getElem?_getD, List.getElem?_eq_getElem hl]
      exact this
    by_cases h0 : (L t).getD 0 0 = 0
    · have hx : (t.extract 1 t.size).size = m := by rw [size_extract]; omega
      obtain ⟨t', e1, e2⟩ := ih (t.extract 1 t.size) hx (by omega)
      refine ⟨t', ev_step ?_, ?_⟩
      · simp only [strings_trimLeftByte.l0]
        rw [hb2, h0]
        exact ev_pos (by first | exact trivial | omega) (ev_pos (by first | exact trivial | omega) (ev_pos (by first | exact trivial | rfl) (ev_pos (by first | exact trivial | omega) e1)))
      · rw [e2, L_from, hc, h0]
        simp
    · refine ⟨t, ev_step ?_, ?_⟩
      · simp only [strings_trimLeftByte.l0]
        rw [hb2]
        refine ev_pos (by omega) (ev_pos (by omega) (ev_neg (fun q => h0 ?_) ev_some))
        rw [← UInt8.toNat_inj]
        have : ((0 : UInt8).toNat) = 0 := rfl
        omega
      · refine ⟨fun q => ?_, fun q => ?_⟩
        · rw [q] at hl; exact absurd hl (by simp)
        · exact absurd (q _ (by rw [hc]; exact List.mem_cons_self)) h0
theorem trim_ev (t : ByteArray) (hb : t.size ≤ 140737488300000) : ∃ t', Ev (fun k => strings_Trim.f k t (⟨#[0]⟩ : ByteArray)) t' ∧ (L t' = [] ↔ ∀ b ∈ L t, b = 0) := by
  have h1 : ((⟨#[0]⟩ : ByteArray)).toList = ([0] : List UInt8) := by rw [ByteArray.toList_eq]
  by_cases h2 : t.toList = ([] : List UInt8)
  · refine ⟨t, ?_, ?_⟩
    · unfold strings_Trim.f
      exact ev_pos h1 (ev_pos h2 ev_some)
    · rw [L_toList] at h2
      rw [h2]; simp
  · obtain ⟨u, e1, ⟨n, e2⟩, e3⟩ := right_ev _ t rfl hb
    have hu : u.size ≤ t.size := by
      have := congrArg List.length e2
      rw [List.length_append, L_length, L_length] at this
      omega
    obtain ⟨v, e4, e5⟩ := left_ev _ u rfl (by omega)
    refine ⟨v, ?_, ?_⟩
    · unfold strings_Trim.f
      exact ev_pos h1 (ev_neg h2 (ev_bind e1 e4))
    · rw [e5, e2]
      constructor
      · intro q b hb2
        rcases List.mem_append.1 hb2 with h | h
        · exact q b h
        · exact (List.mem_replicate.1 h).2
      · intro q b hb2
        exact q b (List.mem_append_left _ hb2)
/-! ### that of a page -/
def NotAny (o : Opened) (P : Int) : Prop := ¬ (o.2.2.2.2.2.2 = 0 ∧ o.1 = 4 ∧ o.2.1 = 0 ∧ 0 ≤ o.2.2.1 ∧ o.2.2.1 ≤ (o.2.2.2.2.2.1.size : Int) ∧ Ok o.2.2.2.2.1 o.2.2.2.1 (o.2.2.2.2.2.1.extract 0 o.2.2.1.toNat) P ∧ ∀ b ∈ (L o.2.2.2.2.2.1).drop o.2.2.1.toNat, b = 0)
open Classical in
noncomputable def chDec (s : ByteArray) : Int × Int × ByteArray × Int :=
  if NotAny (opened s) (s.size : Int) then (0, 0, ⟨#[]⟩, 3) else ((opened s).2.2.2.2.1, (opened s).2.2.2.1, (opened s).2.2.2.2.2.1.extract 0 (opened s).2.2.1.toNat, 0)
theorem dec_j (s : ByteArray) (o : Opened) (ho : 0 ≤ o.2.2.1) (hb : o.2.2.2.2.2.1.size ≤ 140737488300000) (h0 : o.2.2.2.2.2.2 = 0) (h1 : o.1 = 4) (h2 : o.2.1 = 0) :
    Ev (fun k => chain_Decode.j0 k s o.2.2.2.2.2.1 (decide (o.2.2.1 > (o.2.2.2.2.2.1.size : Int))) o.1 o.2.1 o.2.2.1 o.2.2.2.1 o.2.2.2.2.1)
      (by classical exact if NotAny o (s.size : Int) then (0, 0, ⟨#[]⟩, 3) else (o.2.2.2.2.1, o.2.2.2.1, o.2.2.2.2.2.1.extract 0 o.2.2.1.toNat, 0)) := by
  classical
  obtain ⟨a, b, c, r, f, body, e⟩ := o
  simp only at ho hb h0 h1 h2 ⊢
  refine ev_step ?_
  simp only [chain_Decode.j0]
  by_cases hc : c > (body.size : Int)
  · rw [if_pos (show NotAny (a, b, c, r, f, body, e) (s.size : Int) from fun q => by have := q.2.2.2.2.1; simp only at this; omega)]
    exact ev_pos (decide_eq_true hc) ev_some
  · refine ev_neg (by rw [decide_eq_false hc]; exact Bool.false_ne_true) (ev_pos ho (ev_pos (by omega) (ev_bind_now (may_eq f r (body.extract 0 c.toNat) (s.size : Int)) ?_)))
    by_cases hm : Ok f r (body.extract 0 c.toNat) (s.size : Int)
    · refine ev_pos (decide_eq_true hm) ?_
      obtain ⟨t', e1, e2⟩ := trim_ev (body.extract c.toNat body.size) (by rw [size_extract]; omega)
      rw [L_from] at e2
      refine ev_bind e1 ?_
      by_cases hz : L t' = []
      · rw [if_neg (show ¬ NotAny (a, b, c, r, f, body, e) (s.size : Int) from fun q => q ⟨h0, h1, h2, ho, by simp only; omega, hm, e2.1 hz⟩)]
        exact ev_pos (by rw [L_toList]; exact hz) ev_some
      · rw [if_pos (show NotAny (a, b, c, r, f, body, e) (s.size : Int) from fun q => hz (e2.2 q.2.2.2.2.2.2))]
        exact ev_neg (by rw [L_toList]; exact hz) ev_some
    · rw [if_pos (show NotAny (a, b, c, r, f, body, e) (s.size : Int) from fun q => hm q.2.2.2.2.2.1)]
      exact ev_neg (by rw [decide_eq_false hm]; exact Bool.false_ne_true) ev_some
theorem dec_bad (s body : ByteArray) (a b c r f : Int) : Ev (fun k => chain_Decode.j0 k s body true a b c r f) (0, 0, ⟨#[]⟩, 3) := by
  refine ev_step ?_
  simp only [chain_Decode.j0]
  exact ev_pos (by first | exact trivial | rfl) ev_some
theorem opened_nn (s : ByteArray) : 0 ≤ (opened s).2.2.1 := by
  unfold opened
  split
  · exact Int.natCast_nonneg _
  · exact Int.le_refl 0
theorem opened_b (s : ByteArray) : (opened s).2.2.2.2.2.1.size ≤ s.size := by
  unfold opened
  split
  · show (body s).size ≤ s.size
    unfold body
    rw [size_extract]
    omega
  · exact Nat.zero_le _
theorem dec_ev (s : ByteArray) (hs : s.size ≤ 140737488300000) : Ev (fun k => chain_Decode.f k s) (chDec s) := by
  classical
  unfold chain_Decode.f chDec
  refine ev_bind (open_ev s hs) ?_
  have hn := opened_nn s
  have hb := opened_b s
  by_cases h0 : (opened s).2.2.2.2.2.2 = 0
  · refine ev_pos h0 ?_
    by_cases h1 : (opened s).1 = 4
    · refine ev_pos h1 ?_
      by_cases h2 : (opened s).2.1 = 0
      · refine ev_pos h2 ?_
        exact dec_j s (opened s) hn (by omega) h0 h1 h2
      · rw [if_pos (show NotAny (opened s) (s.size : Int) from fun q => h2 q.2.2.1)]
        exact ev_neg h2 (dec_bad _ _ _ _ _ _ _)
    · rw [if_pos (show NotAny (opened s) (s.size : Int) from fun q => h1 q.2.1)]
      exact ev_neg h1 (dec_bad _ _ _ _ _ _ _)
  · rw [if_pos (show NotAny (opened s) (s.size : Int) from fun q => h0 q.1)]
    exact ev_neg h0 (dec_bad _ _ _ _ _ _ _)
/-- A page is decoded as it was encoded. -/
theorem dec_page {s n : Int} {d : ByteArray} {p : Int} (h : Ok s n d p) : chDec (chPage s n d p) = (s, n, d, 0) := by
  classical
  have hps := page_size h
  obtain ⟨P, rfl, hP, hd, hp, et⟩ := ok_size h
  have hk := ok_hd h
  have e1 := h.2.1
  have e2 := h.2.2.1
  have ho : opened (chPage s n d (P : Int)) = told (chHd s n d) ⟨(rest (L d) P).toArray⟩ := by
    unfold chPage
    rw [et]
    exact opened_of hk hP (by rw [L_length]; omega)
  have q1 : ((chHd s n d).r : Int) = n := by show ((n.toNat : Nat) : Int) = n; omega
  have q2 : ((chHd s n d).s : Int) = s := by show ((s.toNat : Nat) : Int) = s; omega
  have hr : rest (L d) P = L d ++ List.replicate (P - 16 - (L d).length) 0 := rfl
  have hx : (⟨(rest (L d) P).toArray⟩ : ByteArray).extract 0 d.size = d := by
    refine L_inj ?_
    rw [L_to, L_mk, hr, List.take_append_of_le_length (by rw [L_length]; exact Nat.le_refl _), List.take_of_length_le (by rw [L_length]; exact Nat.le_refl _)]
  have hz : ∀ b ∈ (L (⟨(rest (L d) P).toArray⟩ : ByteArray)).drop d.size, b = 0 := by
    rw [L_mk, hr, ← L_length d, List.drop_left]
    intro b hb
    exact (List.mem_replicate.1 hb).2
  have hsz : (⟨(rest (L d) P).toArray⟩ : ByteArray).size = P - 16 := by rw [size_mk, rest_length (by rw [L_length]; omega)]
  have hnot : ¬ NotAny (told (chHd s n d) ⟨(rest (L d) P).toArray⟩) (P : Int) := by
    intro q
    refine q ⟨rfl, rfl, rfl, Int.natCast_nonneg _, ?_, ?_, ?_⟩
    · show (d.size : Int) ≤ ((⟨(rest (L d) P).toArray⟩ : ByteArray).size : Int)
      rw [hsz]; omega
    · show Ok ((chHd s n d).s : Int) ((chHd s n d).r : Int) ((⟨(rest (L d) P).toArray⟩ : ByteArray).extract 0 (d.size : Int).toNat) (P : Int)
      rw [q1, q2, Int.toNat_natCast, hx]
      exact h
    · show ∀ b ∈ (L (⟨(rest (L d) P).toArray⟩ : ByteArray)).drop (d.size : Int).toNat, b = 0
      rw [Int.toNat_natCast]
      exact hz
  unfold chDec
  rw [hps, ho, if_neg hnot]
  show (((chHd s n d).s : Int), ((chHd s n d).r : Int), (⟨(rest (L d) P).toArray⟩ : ByteArray).extract 0 (d.size : Int).toNat, (0 : Int)) = _
  rw [q1, q2, Int.toNat_natCast, hx]
/-- A page that is decoded is what is encoded of that. -/
theorem dec_some {s : ByteArray} {a n : Int} {d : ByteArray} (h : chDec s = (a, n, d, 0)) : Ok a n d (s.size : Int) ∧ chPage a n d (s.size : Int) = s := by
  classical
  unfold chDec at h
  by_cases hn : NotAny (opened s) (s.size : Int)
  · rw [if_pos hn] at h
    have := congrArg (fun x : Int × Int × ByteArray × Int => x.2.2.2) h
    simp only at this
    omega
  · rw [if_neg hn] at h
    have hq := Classical.not_not.1 hn
    by_cases hp : isPage s
    · rw [opened_page hp] at h hq
      simp only [told] at h hq
      obtain ⟨g0, g1, g2, g3, g4, g5, g6⟩ := hq
      rw [Int.toNat_natCast] at g5 g6 h
      simp only [Prod.mk.injEq] at h
      obtain ⟨rfl, rfl, rfl, _⟩ := h
      refine ⟨g5, ?_⟩
      have hsz := hp.1
      have h16 := size16 hsz
      have hbs := body_size (s := s) (by omega)
      have hx : ((body s).extract 0 (got (L s)).c).size = (got (L s)).c := by rw [size_extract]; omega
      have ehd : chHd ((got (L s)).s : Int) ((got (L s)).r : Int) ((body s).extract 0 (got (L s)).c) = got (L s) := by
        have e1 : (got (L s)).k = 4 := by omega
        have e2 : (got (L s)).l = 0 := by omega
        unfold chHd
        rw [hx, Int.toNat_natCast, Int.toNat_natCast]
        cases hg : got (L s) with
        | mk k l c r s' =>
          rw [hg] at e1 e2
          simp only at e1 e2
          rw [e1, e2]
      refine L_inj ?_
      unfold chPage
      rw [ehd, pageB_L, Int.toNat_natCast]
      refine (page_of_rest ?_).trans hp.2.2
      have ez : (L (body s)).drop (got (L s)).c = List.replicate ((body s).size - (got (L s)).c) 0 := by
        refine List.eq_replicate_iff.2 ⟨by rw [List.length_drop, L_length], g6⟩
      have eb : L (body s) = L ((body s).extract 0 (got (L s)).c) ++ List.replicate ((body s).size - (got (L s)).c) 0 := by
        rw [L_to, ← ez, List.take_append_drop]
      conv => rhs; rw [eb]
      exact (rest_zeros _ _ _ (by rw [L_length, hx]; omega)).symm
    · rw [opened_none hp] at hq
      exact absurd hq.1 (by decide)
theorem dec_code (s : ByteArray) : (chDec s).2.2.2 = 0 ∨ chDec s = (0, 0, ⟨#[]⟩, 3) := by
  classical
  unfold chDec
  split
  · exact .inr rfl
  · exact .inl rfl
theorem dec_none {s : ByteArray} (h : ¬ isPage s) : chDec s = (0, 0, ⟨#[]⟩, 3) := by
  classical
  unfold chDec
  rw [opened_none h, if_pos (show NotAny none' (s.size : Int) from fun q => absurd q.1 (by decide))]
end Go.Proofs.YtggfnlnonigkiaaGreatDoor.Spec
namespace Go.Proofs.YtggfnlnonigkiaaGreatDoor.Spec
open Go.RowKit Go.Proofs.YtggfnlnonigkiaaGreatDoorW.PrintWords Go.Proofs.YtggfnlnonigkiaaGreatDoorW.PrintLast Go.Proofs.YtggfnlnonigkiaaGreatDoorW.PrintMore Go.Proofs.YtggfnlnonigkiaaGreatDoorEv Go.Proofs.YtggfnlnonigkiaaGreatDoorSum Go.Proofs.YtggfnlnonigkiaaGreatDoorHead Go.Proofs.YtggfnlnonigkiaaGreatDoor.P Go.Proofs.YtggfnlnonigkiaaGreatDoor.HSpec
/-! ### parts -/
def pt (room : Nat) : Nat → ByteArray → List ByteArray
  | 0, _ => []
  | f + 1, x => if x.size = 0 then [] else x.extract 0 (min room x.size) :: pt room f (x.extract (min room x.size) x.size)
theorem pt_nil (room : Nat) : ∀ (f : Nat) (x : ByteArray), x.size = 0 → pt room f x = []
  | 0, _, _ => rfl
  | f + 1, x, h => if_pos h
theorem pt_cons (room f : Nat) (x : ByteArray) (h : x.size ≠ 0) : pt room (f + 1) x = x.extract 0 (min room x.size) :: pt room f (x.extract (min room x.size) x.size) := if_neg h
theorem empty_iff (x : ByteArray) : x.toList = ([] : List UInt8) ↔ x.size = 0 := by
  rw [L_toList, ← L_length]
  exact List.length_eq_zero_iff.symm
theorem parts_loop (room : Nat) (hr : 1 ≤ room) : ∀ (f : Nat) (x : ByteArray) (acc : List ByteArray), x.size ≤ f → acc.length + f ≤ 1000000 → Ev (fun k => chain_Parts.l0 k x (room : Int) acc) (acc ++ pt room f x) := by
  intro f
  induction f with
  | zero =>
    intro x acc h1 h2
    refine ev_step ?_
    simp only [chain_Parts.l0]
    rw [pt_nil room 0 x (by omega), List.append_nil]
    exact ev_pos ((empty_iff x).2 (by omega)) ev_some
  | succ f ih =>
    intro x acc h1 h2
    refine ev_step ?_
    simp only [chain_Parts.l0]
    by_cases h0 : x.size = 0
    · rw [pt_nil room _ x h0, List.append_nil]
      exact ev_pos ((empty_iff x).2 h0) ev_some
    · have hc : chain_Parts.cut (room : Int) x = min room x.size := by unfold chain_Parts.cut; rw [Int.toNat_natCast]
      rw [pt_cons room f x h0, hc]
      refine ev_neg (fun q => h0 ((empty_iff x).1 q)) (ev_pos (by omega) (ev_pos (by omega) ?_))
      have := ih (x.extract (min room x.size) x.size) (acc ++ [x.extract 0 (min room x.size)]) (by rw [size_extract]; omega) (by rw [List.length_append]; show acc.length + 1 + f ≤ _; omega)
      rw [List.append_assoc] at this
      exact this
theorem parts_ev (x : ByteArray) (hx : x.size ≤ 1000000) {p : Int} {r : Nat} (hp : p = (r : Int) + 16) (hr : 1 ≤ r) (hr2 : r ≤ 1008) : Ev (fun k => chain_Parts.f k x p) (pt r x.size x) := by
  unfold chain_Parts.f
  rw [w64 (by omega) (by omega), show p - 16 = (r : Int) by omega]
  have := parts_loop r hr x.size x [] (Nat.le_refl _) (by simpa using hx)
  rw [List.nil_append] at this
  exact this
theorem pt_length (room : Nat) (hr : 1 ≤ room) : ∀ (f : Nat) (x : ByteArray), x.size ≤ f → (pt room f x).length = (x.size + room - 1) / room := by
  intro f
  induction f with
  | zero =>
    intro x h
    rw [pt_nil room 0 x (by omega), List.length_nil, show x.size = 0 by omega, Nat.div_eq_of_lt (by omega)]
  | succ f ih =>
    intro x h
    by_cases h0 : x.size = 0
    · rw [pt_nil room _ x h0, List.length_nil, h0, Nat.div_eq_of_lt (by omega)]
    · have hs : (x.extract (min room x.size) x.size).size = x.size - min room x.size := by rw [size_extract]; omega
      rw [pt_cons room f x h0, List.length_cons, ih _ (by omega), hs]
      by_cases h1 : x.size ≤ room
      · rw [Nat.min_eq_right h1, Nat.sub_self, Nat.div_eq_of_lt (show 0 + room - 1 < room by omega)]
        have e : x.size + room - 1 = (x.size - 1) + room := by omega
        rw [e, Nat.add_div_right _ (by omega), Nat.div_eq_of_lt (show x.size - 1 < room by omega)]
      · rw [Nat.min_eq_left (by omega)]
        have e1 : x.size - room + room - 1 = x.size - 1 := by omega
        have e : x.size + room - 1 = (x.size - 1) + room := by omega
        rw [e1, e, Nat.add_div_right _ (by omega)]
/-! ### how many -/
def pgs (a r : Nat) : Nat := a / r + min (a % r) 1
theorem pages_nat (a r : Nat) (ha : a ≤ 100000000) (hr : 1 ≤ r) (hr2 : r ≤ 1008) {p : Int} (hp : p = (r : Int) + 16) : chain_Pages.f (a : Int) p = some (pgs a r : Int) := by
  unfold chain_Pages.f
  have hd : a / r ≤ a := Nat.div_le_self a r
  rw [w64 (x := p - 16) (by omega) (by omega), show p - 16 = (r : Int) by omega, if_neg (by omega), mx_eq, mn_eq]
  have e0 : max (a : Int) 0 = (a : Int) := by omega
  rw [e0, ← Int.natCast_ediv, ← Int.natCast_emod]
  unfold pgs
  generalize a / r = q at hd ⊢
  generalize a % r = m
  rw [w64 (x := (q : Int)) (by omega) (by omega), w64 (by omega) (by omega)]
  exact congrArg some (by omega)
theorem pages_neg (a : Int) (ha : a ≤ 0) {p : Int} {r : Nat} (hr : 1 ≤ r) (hr2 : r ≤ 1008) (hp : p = (r : Int) + 16) : chain_Pages.f a p = some 0 := by
  have h0 := pages_nat 0 r (by omega) hr hr2 hp
  unfold chain_Pages.f at h0 ⊢
  have e1 : mx a 0 = 0 := by rw [mx_eq]; omega
  have e2 : mx ((0 : Nat) : Int) 0 = 0 := by rw [mx_eq]; omega
  have e3 : pgs 0 r = 0 := by unfold pgs; simp
  rw [e2, e3] at h0
  rw [e1]
  exact h0
theorem pgs_eq (a r : Nat) (hr : 1 ≤ r) : (a + r - 1) / r = pgs a r := by
  unfold pgs
  have h1 := Nat.div_add_mod a r
  have h2 := Nat.mod_lt a (show 0 < r by omega)
  by_cases h0 : a % r = 0
  · rw [h0, Nat.zero_min, Nat.add_zero]
    have e : a + r - 1 = (r - 1) + r * (a / r) := by omega
    rw [e, Nat.add_mul_div_left _ _ (by omega), Nat.div_eq_of_lt (by omega), Nat.zero_add]
  · have e : a + r - 1 = (a % r - 1) + r * (a / r + 1) := by rw [Nat.mul_add, Nat.mul_one]; omega
    rw [e, Nat.add_mul_div_left _ _ (by omega), Nat.div_eq_of_lt (by omega), Nat.zero_add]
    omega
/-! ### the law's fixed calls -/
abbrev abc : ByteArray := ⟨#[97, 98, 99]⟩
theorem ok1 : Ok 5 0 abc 128 := ⟨.inl rfl, by omega, by omega, by omega, fun _ => ⟨by decide, by decide⟩, fun h => absurd rfl h⟩
theorem ok2 : Ok 5 6 (repB 7 112) 128 := ⟨.inl rfl, by omega, by omega, by omega, fun h => absurd h (by omega), fun _ => by rw [repB_size]; rfl⟩
theorem bad1 : ¬ Ok 5 0 ⟨#[]⟩ 128 := fun h => absurd (h.2.2.2.2.1 rfl).1 (by decide)
theorem bad2 : ¬ Ok 5 6 abc 128 := fun h => absurd (h.2.2.2.2.2 (by omega)) (by decide)
theorem zero_page (n : Nat) : ¬ isPage (repB 0 n) := fun h => by
  have h1 := h.2.1.1
  have h2 : (L (repB 0 n)).getD 0 0 = 0 := by
    rw [repB_L]
    cases n <;> rfl
  have h3 : (got (L (repB 0 n))).k = ((L (repB 0 n)).getD 0 0).toNat := rfl
  rw [h3, h2] at h1
  exact absurd h1 (by decide)
theorem pt_two (x : ByteArray) (hx : x.size = 113) : pt 112 x.size x = [x.extract 0 112, (x.extract 112 113).extract 0 1] := by
  rw [hx, pt_cons 112 112 x (by omega), hx, show min 112 113 = 112 from rfl]
  have h1 : (x.extract 112 113).size = 1 := by rw [size_extract, hx]; rfl
  rw [pt_cons 112 111 _ (by omega), h1, show min 112 1 = 1 from rfl, pt_nil 112 111 _ (by rw [size_extract, h1]; rfl)]
theorem fixed_ev : Ev (fun k => withylaw12_fixed.f k) true := by
  have hs := page_size ok1
  have hL : L (chPage 5 0 abc 128) = page (chHd 5 0 abc) (L abc) 128 := pageB_L _ _ _
  have hb0 : bt (chPage 5 0 abc 128) 0 = 4 := by
    have := bt_getD (chPage 5 0 abc 128) 0
    rw [hL] at this
    exact this
  have hb2 : bt (chPage 5 0 abc 128) 2 = 3 := by
    have := bt_getD (chPage 5 0 abc 128) 2
    rw [hL] at this
    exact this
  have hx : ((chPage 5 0 abc 128).extract 16 20).toList = ([97, 98, 99, 0] : List UInt8) := by
    rw [L_toList, L_extract, hL, page_drop]
    rfl
  have hp := repB_size 1 113
  unfold withylaw12_fixed.f
  refine ev_bind (ev_eq (enc_ev 5 0 abc 128) (enc_ok ok1)) ?_
  refine ev_bind (ev_eq (enc_ev 5 0 abc 64) (show chEnc 5 0 abc 64 = (⟨#[]⟩, 4) from if_neg (by decide))) ?_
  refine ev_bind (ev_eq (enc_ev 5 0 ⟨#[]⟩ 128) (enc_bad rfl bad1)) ?_
  refine ev_bind (ev_eq (enc_ev 5 6 abc 128) (enc_bad rfl bad2)) ?_
  refine ev_bind (show Ev (fun k => withyref01_Repeat.f k 7 112) (repB 7 112) from rrepeat_ev 7 112 (by omega)) ?_
  refine ev_bind (ev_eq (enc_ev 5 6 (repB 7 112) 128) (enc_ok ok2)) ?_
  refine ev_pos (by first | exact trivial | rfl) (ev_pos hs (ev_step ?_))
  simp only [withylaw12_fixed.j0]
  refine ev_neg (by decide) ?_
  refine ev_bind (ev_eq (dec_ev _ (by omega)) (dec_page ok1)) ?_
  refine ev_bind (ev_eq (dec_ev _ (by have := page_size ok2; omega)) (dec_page ok2)) ?_
  refine ev_bind (show Ev (fun k => withyref01_Repeat.f k 0 128) (repB 0 128) from rrepeat_ev 0 128 (by omega)) ?_
  refine ev_bind (ev_eq (dec_ev _ (by rw [repB_size]; omega)) (dec_none (zero_page 128))) ?_
  refine ev_bind (show Ev (fun k => withyref01_Repeat.f k 1 113) (repB 1 113) from rrepeat_ev 1 113 (by omega)) ?_
  refine ev_bind (ev_eq (parts_ev (repB 1 113) (by omega) (p := 128) (r := 112) rfl (by omega) (by omega)) (pt_two _ hp)) ?_
  refine ev_pos (by omega) (ev_pos hb0 (ev_pos (by omega) (ev_pos hb2 (ev_pos (by omega) (ev_pos (by omega) (ev_pos hx ?_))))))
  refine ev_pos (by first | exact trivial | rfl) (ev_pos (by first | exact trivial | rfl) (ev_pos (by first | exact trivial | rfl) (ev_pos (by first | exact trivial | rfl | simp) (ev_pos (by first | exact trivial | rfl) (ev_pos (by first | exact trivial | rfl) (ev_pos (by show ((repB 7 112).size : Int) = 112; rw [repB_size]; rfl) (ev_pos (by first | exact trivial | rfl) (ev_pos (by first | exact trivial | rfl) ?_))))))))
  refine ev_pos (by first | exact trivial | rfl) (ev_pos (by first | exact trivial | decide) (ev_pos (by show (((repB 1 113).extract 0 112).size : Int) = 112; rw [size_extract, hp]; rfl) (ev_pos (by first | exact trivial | decide) (ev_pos (by show ((((repB 1 113).extract 112 113).extract 0 1).size : Int) = 1; rw [size_extract, size_extract, hp]; rfl) ?_))))
  refine ev_bind_now (show chain_Pages.f 113 128 = some 2 from pages_nat 113 112 (by omega) (by omega) (by omega) rfl) (ev_pos (by first | exact trivial | rfl) ?_)
  refine ev_bind_now (show chain_Pages.f 112 128 = some 1 from pages_nat 112 112 (by omega) (by omega) (by omega) rfl) (ev_pos (by first | exact trivial | rfl) ?_)
  refine ev_bind_now (show chain_Pages.f 0 128 = some 0 from pages_nat 0 112 (by omega) (by omega) (by omega) rfl) (ev_pos (by first | exact trivial | rfl) ?_)
  refine ev_bind (ev_eq (parts_ev ⟨#[]⟩ (by decide) (p := 128) (r := 112) rfl (by omega) (by omega)) (pt_nil 112 _ _ rfl)) ?_
  refine ev_pos (by first | exact trivial | rfl) (ev_bind_now (may_eq 5 0 abc 128) (ev_pos (decide_eq_true ok1) ?_))
  refine ev_bind_now (may_eq 0 0 ⟨#[]⟩ 128) (ev_some' ?_)
  rw [decide_eq_false (fun h => absurd h.2.1.1 (by omega))]
  rfl
end Go.Proofs.YtggfnlnonigkiaaGreatDoor.Spec
