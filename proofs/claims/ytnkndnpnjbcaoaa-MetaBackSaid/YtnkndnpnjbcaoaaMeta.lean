/- What is proved here: the plain law of a meta's page: its body, what is read of it, and that a page that ends otherwise is none. No program in sight. Conditions: as each theorem names them. -/
import Derived.Test.YtnkndnpnjbcaoaaSpec3
set_option linter.unusedVariables false
set_option linter.unusedSimpArgs false
namespace Go.Proofs.Ytnkndnpnjbcaoaa.Spec
open Go.RowKit Go.Proofs.YtnkndnpnjbcaoaaW.PrintWords Go.Proofs.YtnkndnpnjbcaoaaW.PrintLast Go.Proofs.YtnkndnpnjbcaoaaW.PrintMore Go.Proofs.YtnkndnpnjbcaoaaEv Go.Proofs.YtnkndnpnjbcaoaaSum Go.Proofs.YtnkndnpnjbcaoaaHead Go.Proofs.Ytnkndnpnjbcaoaa.P

structure Mt where
  p : Nat
  g : Nat
  r : Nat
  l : Nat
  n : Nat
deriving DecidableEq
def Mt.ok (m : Mt) : Prop := Size m.p ∧ 2 ≤ m.g ∧ m.g ≤ 4096 ∧ 1 ≤ m.r ∧ m.r < m.g ∧ m.l < 256 ∧ m.n ≤ 2147483647
def mhd (m : Mt) : Hd := ⟨1, m.l, 0, m.r, 0⟩
def mhead (m : Mt) : List UInt8 := [119, 105, 116, 104, 121] ++ le4 m.p ++ le4 m.g ++ le4 m.n
def mbody (m : Mt) : List UInt8 := mhead m ++ List.replicate (m.p - 34) 0 ++ [87]
def encB (m : Mt) : ByteArray := pageB (mhd m) (mbody m) m.p
theorem mhead_length (m : Mt) : (mhead m).length = 17 := rfl
theorem mbody_length {m : Mt} (ok : m.ok) : (mbody m).length + 16 = m.p := by
  have := size16 ok.1
  simp only [mbody, List.length_append, List.length_replicate, mhead_length, List.length_cons, List.length_nil]
  omega
theorem mhd_ok {m : Mt} (ok : m.ok) : (mhd m).ok := by
  obtain ⟨_, h1, h2, h3, h4, h5, h6⟩ := ok
  unfold Hd.ok mhd
  simp only
  omega
theorem encB_size {m : Mt} (ok : m.ok) : (encB m).size = m.p := by
  have := mbody_length ok
  exact pageB_size (by omega)
theorem rest_mbody {m : Mt} (ok : m.ok) : rest (mbody m) m.p = mbody m := by
  have := mbody_length ok
  unfold rest
  rw [show m.p - 16 - (mbody m).length = 0 by omega]
  exact List.append_nil _
/-- What is read of a page's body, and of its head. -/
def mgot (s : ByteArray) : Mt := ⟨rd4 ((L (body s)).drop 5), rd4 ((L (body s)).drop 9), (got (L s)).r, (got (L s)).l, rd4 ((L (body s)).drop 13)⟩
def isMeta (s : ByteArray) : Prop := (mgot s).ok ∧ L (encB (mgot s)) = L s
instance (s : ByteArray) : Decidable (isMeta s) := by
  unfold isMeta Mt.ok Size
  infer_instance
theorem body_encB {m : Mt} (ok : m.ok) : L (body (encB m)) = mbody m := by
  rw [body_L]
  unfold encB
  rw [pageB_L, page_drop, rest_mbody ok]
theorem mgot_encB {m : Mt} (ok : m.ok) : mgot (encB m) = m := by
  have hz := size16 ok.1
  obtain ⟨h0, h1, h2, h3, h4, h5, h6⟩ := id ok
  have hg : got (L (encB m)) = mhd m := by
    unfold encB
    rw [pageB_L, got_page (mhd_ok ok)]
  have e5 : (mbody m).drop 5 = le4 m.p ++ ([UInt8.ofNat m.g, UInt8.ofNat (m.g / 256), UInt8.ofNat (m.g / 65536), UInt8.ofNat (m.g / 16777216)] ++ le4 m.n ++ List.replicate (m.p - 34) 0 ++ [87]) := by
    simp [mbody, mhead, le4]
  have e9 : (mbody m).drop 9 = le4 m.g ++ (le4 m.n ++ List.replicate (m.p - 34) 0 ++ [87]) := by
    simp [mbody, mhead, le4]
  have e13 : (mbody m).drop 13 = le4 m.n ++ (List.replicate (m.p - 34) 0 ++ [87]) := by
    simp [mbody, mhead, le4]
  unfold mgot
  rw [body_encB ok, hg, e5, e9, e13, rd4_le4 _ (by omega), rd4_le4 _ (by omega), rd4_le4 _ (by omega)]
  rfl
theorem isMeta_encB {m : Mt} (ok : m.ok) : isMeta (encB m) := by
  unfold isMeta
  rw [mgot_encB ok]
  exact ⟨ok, rfl⟩
theorem encB_inj {m n : Mt} (om : m.ok) (on : n.ok) (h : L (encB m) = L (encB n)) : m = n := by
  have := L_inj h
  rw [← mgot_encB om, this, mgot_encB on]
theorem isMeta_page {s : ByteArray} (h : isMeta s) : isPage s := by
  have h2 := L_inj h.2
  rw [← h2]
  have := mbody_length h.1
  exact isPage_of (mhd_ok h.1) h.1.1 (by omega)
theorem isMeta_size {s : ByteArray} (h : isMeta s) : s.size = (mgot s).p := by
  have h2 := L_inj h.2
  have := encB_size h.1
  rw [h2] at this
  exact this
/-- A meta's page ends in 'W'. -/
theorem encB_last {m : Mt} (ok : m.ok) : (L (encB m))[m.p - 1]? = some 87 := by
  have hz := size16 ok.1
  have hl := mbody_length ok
  have h16 : (front (mhd m) ++ le4 (sum (mhd m) (mbody m) m.p)).length = 16 := rfl
  unfold encB
  rw [pageB_L, page, rest_mbody ok, List.getElem?_append_right (by omega), h16]
  have h2 : (mhead m ++ List.replicate (m.p - 34) (0 : UInt8)).length = m.p - 17 := by
    rw [List.length_append, mhead_length, List.length_replicate]
    omega
  unfold mbody
  rw [List.getElem?_append_right (by omega), h2, show m.p - 1 - 16 - (m.p - 17) = 0 by omega]
  rfl
theorem meta_last {s : ByteArray} (h : isMeta s) : (L s)[s.size - 1]? = some 87 := by
  rw [isMeta_size h, ← h.2]
  exact encB_last h.1
/-- What is torn. -/
def torn (a b : ByteArray) (n : Nat) : ByteArray := a.extract 0 n ++ b.extract n b.size
theorem torn_L (a b : ByteArray) (n : Nat) : L (torn a b n) = (L a).take n ++ (L b).drop n := by
  unfold torn
  rw [L_append, L_to, L_from]
theorem torn_all (a b : ByteArray) (n : Nat) (h : a.size = b.size) (hn : a.size ≤ n) : torn a b n = a := by
  have ha := L_length a
  have hb := L_length b
  refine L_inj ?_
  rw [torn_L, List.take_of_length_le (by omega), List.drop_of_length_le (by omega), List.append_nil]
theorem torn_size (a b : ByteArray) (n : Nat) (h : a.size = b.size) : (torn a b n).size = a.size := by
  have ha := L_length a
  have hb := L_length b
  rw [← L_length, torn_L, List.length_append, List.length_take, List.length_drop]
  omega
theorem torn_last (a b : ByteArray) (n : Nat) (h : a.size = b.size) (hn : n < a.size) : (L (torn a b n))[a.size - 1]? = (L b)[a.size - 1]? := by
  have ha := L_length a
  rw [torn_L, List.getElem?_append_right (by rw [List.length_take]; omega), List.length_take, List.getElem?_drop]
  congr 1
  omega
theorem torn_not {a b : ByteArray} {n : Nat} (h : a.size = b.size) (hn : n < a.size) (hb : (L b)[a.size - 1]? ≠ some 87) : ¬ isMeta (torn a b n) := fun hm => by
  have := meta_last hm
  rw [torn_size a b n h, torn_last a b n h hn] at this
  exact hb this
end Go.Proofs.Ytnkndnpnjbcaoaa.Spec
