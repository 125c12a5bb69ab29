/- What is proved here: what encoding, decoding and tearing of metas answer, in the program and in its reference; the law's fixed calls. Conditions: sizes within the form's reach. -/
import Derived.Test.YtnkndnpnjbcaoaaMeta
set_option linter.unusedVariables false
set_option linter.unusedSimpArgs false
namespace Go.Proofs.Ytnkndnpnjbcaoaa.Spec
open Go.RowKit Go.Proofs.YtnkndnpnjbcaoaaW.PrintWords Go.Proofs.YtnkndnpnjbcaoaaW.PrintLast Go.Proofs.YtnkndnpnjbcaoaaW.PrintMore Go.Proofs.YtnkndnpnjbcaoaaEv Go.Proofs.YtnkndnpnjbcaoaaSum Go.Proofs.YtnkndnpnjbcaoaaHead Go.Proofs.Ytnkndnpnjbcaoaa.P

def mayI (a0 a1 a2 a3 a4 : Int) : Bool := head_may.sized a0 && decide (2 ≤ a1 ∧ a1 ≤ 4096 ∧ 1 ≤ a2 ∧ a2 < a1 ∧ 0 ≤ a3 ∧ a3 < 256 ∧ 0 ≤ a4 ∧ a4 ≤ 2147483647)
theorem mayI_iff (a0 a1 a2 a3 a4 : Int) : mayI a0 a1 a2 a3 a4 = true ↔ (a0 = 128 ∨ a0 = 256 ∨ a0 = 512 ∨ a0 = 1024) ∧ 2 ≤ a1 ∧ a1 ≤ 4096 ∧ 1 ≤ a2 ∧ a2 < a1 ∧ 0 ≤ a3 ∧ a3 < 256 ∧ 0 ≤ a4 ∧ a4 ≤ 2147483647 := by
  unfold mayI
  rw [Bool.and_eq_true, sized_iff, decide_eq_true_eq]
theorem may_eq (a0 a1 a2 a3 a4 : Int) : meta_May.f a0 a1 a2 a3 a4 = some (mayI a0 a1 a2 a3 a4) := by
  have h := mayI_iff a0 a1 a2 a3 a4
  have hds : disk_Size.f a0 = some (head_may.sized a0) := rfl
  have hz := sized_iff a0
  unfold meta_May.f
  rw [hds, Option.bind_some]
  cases hr : mayI a0 a1 a2 a3 a4
  · rw [hr] at h
    have h' : ¬ ((a0 = 128 ∨ a0 = 256 ∨ a0 = 512 ∨ a0 = 1024) ∧ 2 ≤ a1 ∧ a1 ≤ 4096 ∧ 1 ≤ a2 ∧ a2 < a1 ∧ 0 ≤ a3 ∧ a3 < 256 ∧ 0 ≤ a4 ∧ a4 ≤ 2147483647) := fun e => Bool.noConfusion (h.2 e)
    by_cases h1 : head_may.sized a0 = true
    · have h1' := hz.1 h1
      rw [if_pos h1]
      repeat' split
      all_goals first | rfl | (refine congrArg some (decide_eq_false ?_); omega)
    · rw [if_neg h1]
  · have h' := h.1 hr
    rw [if_pos (hz.2 h'.1), if_pos (by omega), if_pos (by omega), if_pos (by omega), if_pos (by omega), if_pos (by omega), if_pos (by omega), if_pos (by omega)]
    exact congrArg some (decide_eq_true (by omega))
theorem may_mt {a0 a1 a2 a3 a4 : Int} (h : mayI a0 a1 a2 a3 a4 = true) : ∃ m : Mt, m.ok ∧ a0 = m.p ∧ a1 = m.g ∧ a2 = m.r ∧ a3 = m.l ∧ a4 = m.n := by
  have h' := (mayI_iff _ _ _ _ _).1 h
  refine ⟨⟨a0.toNat, a1.toNat, a2.toNat, a3.toNat, a4.toNat⟩, ?_, ?_, ?_, ?_, ?_, ?_⟩
  · unfold Mt.ok Size; simp only; omega
  · show a0 = ((a0.toNat : Nat) : Int); omega
  · show a1 = ((a1.toNat : Nat) : Int); omega
  · show a2 = ((a2.toNat : Nat) : Int); omega
  · show a3 = ((a3.toNat : Nat) : Int); omega
  · show a4 = ((a4.toNat : Nat) : Int); omega
theorem may_of (m : Mt) : mayI m.p m.g m.r m.l m.n = true ↔ m.ok := by
  rw [mayI_iff]
  unfold Mt.ok Size
  constructor
  · intro h; omega
  · intro h; omega
def enc (a0 a1 a2 a3 a4 : Int) : ByteArray × Int := if mayI a0 a1 a2 a3 a4 = true then (encB ⟨a0.toNat, a1.toNat, a2.toNat, a3.toNat, a4.toNat⟩, 0) else (⟨#[]⟩, 3)
theorem enc_of {m : Mt} (ok : m.ok) : enc m.p m.g m.r m.l m.n = (encB m, 0) := by
  unfold enc
  rw [if_pos ((may_of m).2 ok)]
  simp only [Int.toNat_natCast]
theorem enc_not {a0 a1 a2 a3 a4 : Int} (h : ¬ mayI a0 a1 a2 a3 a4 = true) : enc a0 a1 a2 a3 a4 = (⟨#[]⟩, 3) := if_neg h

def wB : ByteArray := ⟨#[119, 105, 116, 104, 121]⟩
theorem wB_size : wB.size = 5 := rfl
def wholeB (m : Mt) : ByteArray := ((wB ++ fourB m.p) ++ fourB m.g) ++ fourB m.n
theorem wholeB_size (m : Mt) : (wholeB m).size = 17 := by
  unfold wholeB
  rw [ByteArray.size_append, ByteArray.size_append, ByteArray.size_append, fourB_size, fourB_size, fourB_size, wB_size]
theorem wholeB_L (m : Mt) : L (wholeB m) = mhead m := by
  unfold wholeB
  rw [L_append, L_append, L_append, fourB_L, fourB_L, fourB_L]
  rfl
theorem oneB_size : (⟨#[87]⟩ : ByteArray).size = 1 := rfl
theorem seal_meta {m : Mt} (ok : m.ok) (b : ByteArray) (hb : L b = mbody m) : Ev (fun k => head_Seal.f k 1 m.l 0 m.r 0 b m.p) (encB m, 0) := by
  have hl := mbody_length ok
  have hbs := L_length b
  have v := seal_ev (mhd m).k (mhd m).l (mhd m).c (mhd m).r (mhd m).s b m.p
  rw [sealed_of (mhd_ok ok) ok.1 (by rw [← hbs, hb]; omega), hb] at v
  exact v
theorem enc_ev (a0 a1 a2 a3 a4 : Int) : Ev (fun k => meta_Encode.f k a0 a1 a2 a3 a4) (enc a0 a1 a2 a3 a4) := by
  unfold meta_Encode.f
  by_cases h : mayI a0 a1 a2 a3 a4 = true
  · refine ev_bind_now (may_eq _ _ _ _ _) (ev_pos h (ev_bind_now rfl ?_))
    obtain ⟨m, ok, rfl, rfl, rfl, rfl, rfl⟩ := may_mt h
    rw [enc_of ok]
    have hp := size16 ok.1
    obtain ⟨h0, h1, h2, h3, h4, h5, h6⟩ := id ok
    have r0 : rd [(m.p : Int), m.g, m.n] 0 = m.p := rfl
    have r1 : rd [(m.p : Int), m.g, m.n] 1 = m.g := rfl
    have r2 : rd [(m.p : Int), m.g, m.n] 2 = m.n := rfl
    have w0 : wrap64 (0 + 1) = 1 := by unfold wrap64; omega
    have w1 : wrap64 (1 + 1) = 2 := by unfold wrap64; omega
    have w2 : wrap64 (2 + 1) = 3 := by unfold wrap64; omega
    have hlen : (([(m.p : Int), m.g, m.n] : List Int).length : Int) = 3 := rfl
    rw [hlen]
    refine ev_step ?_
    simp only [meta_Encode.l0]
    rw [r0, w0, hlen, show (m.p : Int) % 4294967296 = (m.p : Int) by omega]
    refine ev_pos (by omega) (ev_pos (by omega) (ev_pos (by omega) (ev_bind_now (four_eq _) (ev_pos (by rw [fourB_size]; show 5 + 4 ≤ _; omega) (ev_step ?_)))))
    simp only [meta_Encode.l0]
    rw [r1, w1, hlen, show (m.g : Int) % 4294967296 = (m.g : Int) by omega]
    refine ev_pos (by omega) (ev_pos (by omega) (ev_pos (by omega) (ev_bind_now (four_eq _) (ev_pos (by rw [fourB_size, ByteArray.size_append, fourB_size]; show 5 + 4 + 4 ≤ _; omega) (ev_step ?_)))))
    simp only [meta_Encode.l0]
    rw [r2, w2, hlen, show (m.n : Int) % 4294967296 = (m.n : Int) by omega]
    refine ev_pos (by omega) (ev_pos (by omega) (ev_pos (by omega) (ev_bind_now (four_eq _) (ev_pos (by rw [fourB_size, ByteArray.size_append, ByteArray.size_append, fourB_size, fourB_size]; show 5 + 4 + 4 + 4 ≤ _; omega) (ev_step ?_)))))
    simp only [meta_Encode.l0]
    refine ev_neg (by omega) ?_
    have hw : (((⟨#[119, 105, 116, 104, 121]⟩ : ByteArray) ++ fourB m.p) ++ fourB m.g) ++ fourB m.n = wholeB m := rfl
    rw [hw, wholeB_size, w64 (x := (m.p : Int) - 16) (by omega) (by omega), w64 (x := (m.p : Int) - 16 - _) (by omega) (by omega), w64 (by omega) (by omega), show (m.p : Int) - 16 - ((17 : Nat) : Int) - 1 = ((m.p - 34 : Nat) : Int) by omega]
    refine ev_bind_now (repeat_eq _ (by omega)) (ev_pos (by rw [zerosB_size]; omega) (ev_pos (by rw [ByteArray.size_append, zerosB_size, oneB_size]; omega) (ev_bind (seal_meta ok _ ?_) ev_some)))
    rw [L_append, L_append, wholeB_L, zerosB_L]
    unfold mbody
    rw [List.append_assoc]
  · rw [enc_not h]
    exact ev_bind_now (may_eq _ _ _ _ _) (ev_neg h ev_some)
abbrev Decoded := Int × Int × Int × Int × Int × Int
def tellM (m : Mt) : Decoded := (m.p, m.g, m.r, m.l, m.n, 0)
def noM : Decoded := (0, 0, 0, 0, 0, 3)
def decoded (s : ByteArray) : Decoded := if isMeta s then tellM (mgot s) else noM
theorem rd4_lt (l : List UInt8) : rd4 l < 4294967296 := by
  have q0 := u8_lt (l.getD 0 0)
  have q1 := u8_lt (l.getD 1 0)
  have q2 := u8_lt (l.getD 2 0)
  have q3 := u8_lt (l.getD 3 0)
  unfold rd4
  omega
/-- What is encoded of what is read. -/
theorem enc_got (s : ByteArray) : (isMeta s ∧ enc (mgot s).p (mgot s).g (mgot s).r (mgot s).l (mgot s).n = (s, 0)) ∨ (¬ isMeta s ∧ ((enc (mgot s).p (mgot s).g (mgot s).r (mgot s).l (mgot s).n).2 ≠ 0 ∨ L (enc (mgot s).p (mgot s).g (mgot s).r (mgot s).l (mgot s).n).1 ≠ L s)) := by
  by_cases ok : (mgot s).ok
  · rw [enc_of ok]
    by_cases hl : L (encB (mgot s)) = L s
    · exact .inl ⟨⟨ok, hl⟩, by rw [L_inj hl]⟩
    · exact .inr ⟨fun h => hl h.2, .inr hl⟩
  · have hn : ¬ mayI (mgot s).p (mgot s).g (mgot s).r (mgot s).l (mgot s).n = true := fun h => ok ((may_of _).1 h)
    rw [enc_not hn]
    refine .inr ⟨fun h => ok h.1, .inl ?_⟩
    show (3 : Int) ≠ 0
    omega
theorem dec_ev (s : ByteArray) (hsz : s.size ≤ 140737488300000) : Ev (fun k => meta_Decode.f k s) (decoded s) := by
  unfold meta_Decode.f
  refine ev_bind (open_ev s hsz) ?_
  by_cases hp : isPage s
  · rw [opened_page hp]
    refine ev_pos rfl ?_
    have h16 := size16 hp.1
    have hb := body_size (s := s) (by omega)
    show Ev (fun k => meta_Decode.l0 k s (body s) 5 0 (got (L s)).k (got (L s)).l (got (L s)).c (got (L s)).r (got (L s)).s 0 0 0) _
    have v5 : Ev (fun k => word_Read.f k (body s) 5) (((mgot s).p : Int), 0) := read_ev (body s) 5 (by omega) (by omega)
    have v9 : Ev (fun k => word_Read.f k (body s) 9) (((mgot s).g : Int), 0) := read_ev (body s) 9 (by omega) (by omega)
    have v13 : Ev (fun k => word_Read.f k (body s) 13) (((mgot s).n : Int), 0) := read_ev (body s) 13 (by omega) (by omega)
    have l5 : (mgot s).p < 4294967296 := rd4_lt _
    have l9 : (mgot s).g < 4294967296 := rd4_lt _
    have l13 : (mgot s).n < 4294967296 := rd4_lt _
    have w0 : wrap64 (0 + 1) = 1 := by unfold wrap64; omega
    have w1 : wrap64 (1 + 1) = 2 := by unfold wrap64; omega
    have w2 : wrap64 (2 + 1) = 3 := by unfold wrap64; omega
    have x1 : wrap64 (5 + 4) = 9 := by unfold wrap64; omega
    have x2 : wrap64 (9 + 4) = 13 := by unfold wrap64; omega
    refine ev_step ?_
    simp only [meta_Decode.l0]
    refine ev_pos (by omega) (ev_bind v5 (ev_pos rfl (ev_pos (by first | rfl | trivial) ?_)))
    rw [w0, x1, w64 (x := ((mgot s).p : Int)) (by omega) (by omega)]
    refine ev_step ?_
    simp only [meta_Decode.l0]
    refine ev_pos (by omega) (ev_bind v9 (ev_pos rfl (ev_neg (by omega) (ev_pos (by first | rfl | trivial) ?_))))
    rw [w1, x2, w64 (x := ((mgot s).g : Int)) (by omega) (by omega)]
    refine ev_step ?_
    simp only [meta_Decode.l0]
    refine ev_pos (by omega) (ev_bind v13 (ev_pos rfl (ev_neg (by omega) (ev_neg (by omega) (ev_pos (by first | rfl | trivial) ?_)))))
    rw [w2, w64 (x := ((mgot s).n : Int)) (by omega) (by omega)]
    refine ev_step ?_
    simp only [meta_Decode.l0]
    refine ev_neg (by omega) (ev_bind (enc_ev (mgot s).p (mgot s).g (mgot s).r (mgot s).l (mgot s).n) ?_)
    unfold decoded
    rcases enc_got s with ⟨hm, e⟩ | ⟨hm, e⟩
    · rw [e, if_pos hm]
      have hz := size16 hm.1.1
      refine ev_pos rfl (ev_pos rfl (ev_neg ?_ ev_some))
      simp
      omega
    · rw [if_neg hm]
      by_cases h2 : (enc (mgot s).p (mgot s).g (mgot s).r (mgot s).l (mgot s).n).2 = 0
      · rcases e with e | e
        · exact absurd h2 e
        · exact ev_pos h2 (ev_neg (by rw [L_toList, L_toList]; exact e) ev_some)
      · exact ev_neg h2 ev_some
  · rw [opened_none hp]
    have hd : decoded s = noM := if_neg (fun h => hp (isMeta_page h))
    rw [hd]
    exact ev_neg (by decide) ev_some
theorem decoded_of {m : Mt} (ok : m.ok) : decoded (encB m) = tellM m := by
  unfold decoded
  rw [if_pos (isMeta_encB ok), mgot_encB ok]
theorem decoded_not {s : ByteArray} (h : ¬ isMeta s) : decoded s = noM := if_neg h
end Go.Proofs.Ytnkndnpnjbcaoaa.Spec
