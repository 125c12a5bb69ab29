/- What is proved here: the state that a law keeps while it calls a disk's methods; pages of one byte; texts that are compared with themselves. Conditions: as each theorem names them. -/
import Derived.Test.YtnmdpjbpbiempaaDkC1
set_option linter.unusedVariables false
set_option linter.unusedSimpArgs false
namespace Go.Proofs.Ytnmdpjbpbiempaa.P
open Go.RowKit Go.Proofs.YtnmdpjbpbiempaaW.PrintWords Go.Proofs.YtnmdpjbpbiempaaW.PrintLast Go.Proofs.YtnmdpjbpbiempaaW.PrintMore
theorem DkAt.later {W W' : World} {g : Nat} {own : Option Nat} {d : Dk} (h : DkAt W g own d) (hb : Below W.heap.size W W') (M' : Nat → Prop) (hm : ∀ k, k < W.heap.size → M' k) (hf : ∀ k, W'.heap.size ≤ k → M' k) : DkAt W' g own { d with M := M' } := by
  obtain ⟨A3, c3, A4, c4, A5, c5, h0, h1, h2, h3, h4, h5⟩ := h
  exact ⟨A3, c3, A4, c4, A5, c5, (hb.block _ (blk_lt h0)).trans h0, Kd.V_mono (Kd.V_below (Kd.V_bound h1) hb) (fun k hk => ⟨hk.1.1, hk.1.2.1, hm k hk.2⟩), Kd.V_mono (Kd.V_below (Kd.V_bound h2) hb) (fun k hk => ⟨hk.1.1, hk.1.2.1, hm k hk.2⟩), Kd.R_mono (Kd.R_below (Kd.R_bound h3) hb) (fun k hk => ⟨hk.1.1, hm k hk.2.2.1⟩), h4, hf⟩
/-- A disk that is used from w5 on: all that is older, but its own block, is as it was. -/
structure St (w5 W : World) (g : Nat) (own : Option Nat) (d : Dk) : Prop where
  dk : DkAt W g own d
  ow : own = none ∨ ∃ b, own = some b ∧ w5.heap.size ≤ b
  kp : Kp w5 W g none
theorem St.init {W : World} {g : Nat} {d : Dk} (h : DkAt W g none d) : St W W g none d := ⟨h, .inl rfl, Kp.refl W g none⟩
theorem St.below {w5 W W' : World} {g : Nat} {own : Option Nat} {d : Dk} (h : St w5 W g own d) (hb : Below W.heap.size W W') : St w5 W' g own d := ⟨h.dk.below hb, h.ow, h.kp.trans (Kp.of_below hb rfl g none) (.inl rfl)⟩
theorem St.drew {w5 W : World} {g : Nat} {own : Option Nat} {d : Dk} (h : St w5 W g own d) : St w5 W.drew g own d := h.below (below_drew1 (Below.refl _ _))
theorem St.drewN {w5 W : World} {g : Nat} {own : Option Nat} {d : Dk} (h : St w5 W g own d) (m : Nat) : St w5 (W.drewN m) g own d := h.below (pw_below_drewN (Below.refl _ _) m)
theorem St.alloc {w5 W : World} {g : Nat} {own : Option Nat} {d : Dk} (h : St w5 W g own d) (o : Obj) : St w5 (W.alloc o) g own d := h.below (below_alloc (Below.refl _ _) o)
theorem St.mv {w5 W W' : World} {g : Nat} {own own' : Option Nat} {d d' : Dk} (h : St w5 W g own d) (hd : DkAt W' g own' d') (m : Mv W W' g own own') : St w5 W' g own' d' := by
  refine ⟨hd, ?_, h.kp.trans m.1 h.ow⟩
  rcases m.2 with e | ⟨b, e, hb⟩
  · rw [e]; exact h.ow
  · exact .inr ⟨b, e, Nat.le_trans h.kp.1.1 hb⟩
theorem St.kpp {w5 W W' : World} {g : Nat} {own own' : Option Nat} {d d' : Dk} (h : St w5 W g own d) (hd : DkAt W' g own' d') (k : Kp W W' g none) (ho : own' = own ∨ own' = none) : St w5 W' g own' d' := by
  refine ⟨hd, ?_, h.kp.trans k (.inl rfl)⟩
  rcases ho with e | e
  · rw [e]; exact h.ow
  · exact .inl e
/-- All that is older than the disk is as it was. -/
theorem St.old {w w5 W : World} {g : Nat} {own : Option Nat} {d : Dk} (h : St w5 W g own d) (hb : Below w.heap.size w w5) (hg : w.heap.size ≤ g) : Below w.heap.size w W :=
  ⟨h.kp.2.1.trans hb.os, h.kp.2.2.1.trans hb.tape, h.kp.2.2.2.trans hb.output, Nat.le_trans hb.size h.kp.1.1, fun k hk => (h.kp.1.2 k (Nat.lt_of_lt_of_le hk hb.size) (by omega) (by simp)).trans (hb.block k hk)⟩
/-- Another disk, made ahead of w5, that this one's calls do not touch. -/
theorem St.other {w5 W : World} {g g2 : Nat} {own : Option Nat} {d d2 : Dk} (h : St w5 W g own d) (h2 : DkAt w5 g2 none d2) (hne : g2 ≠ g) (hM : ∀ k, d2.M k → k ≠ g) : DkAt W g2 none d2 :=
  h2.step h.kp.1.1 (fun k hk ho => h.kp.1.2 k hk (by
    rcases ho with rfl | ho
    · exact hne
    · exact hM k ho) (by simp))
/-- A read is counted. -/
def Dk.readD (d : Dk) : Dk := { d with reads := wrap64 (d.reads + 1) }
def Dk.limit (d : Dk) (n : Int) : Dk := { d with left := max n 0 }
def Dk.crash (d : Dk) (l : List Ch) : Dk := { d with kept := crashL d.p d.kept d.pend l, now := crashL d.p d.kept d.pend l, pend := [], left := -1 }
section
variable {w5 W : World} {g : Nat} {own : Option Nat} {d : Dk}
theorem st_Len (h : St w5 W g own d) : Calls Try.prog 15 #[.pointer (some ⟨g, 0, none⟩)] W fun e w' => e = .returned (.int .i64 (d.now.length : Int)) ∧ Below W.heap.size W w' :=
  (dk_Len W g own d h.dk).mono (fun e w' q => ⟨q.1, q.2.2.2⟩)
theorem st_Reads (h : St w5 W g own d) : Calls Try.prog 17 #[.pointer (some ⟨g, 0, none⟩)] W fun e w' => e = .returned (.int .i64 d.reads) ∧ Below W.heap.size W w' :=
  (dk_Reads W g own d h.dk).mono (fun e w' q => ⟨q.1, q.2.2.2⟩)
theorem st_Page (h : St w5 W g own d) : Calls Try.prog 21 #[.pointer (some ⟨g, 0, none⟩)] W fun e w' => e = .returned (.int .i64 d.p) ∧ Below W.heap.size W w' :=
  (dk_Page W g own d h.dk).mono (fun e w' q => ⟨q.1, q.2.2.2⟩)
theorem st_Room (h : St w5 W g own d) : Calls Try.prog 22 #[.pointer (some ⟨g, 0, none⟩)] W fun e w' => e = .returned (.int .i64 d.room) ∧ Below W.heap.size W w' :=
  (dk_Room W g own d h.dk).mono (fun e w' q => ⟨q.1, q.2.2.2⟩)
theorem st_All (h : St w5 W g own d) (hn : d.now.length < 8796093022208) : Calls Try.prog 19 #[.pointer (some ⟨g, 0, none⟩)] W fun e w' => ∃ v : Value, e = .returned v ∧ Kd.R Kd.string 9 w' W.heap.size (fun _ => True) v d.now ∧ Below W.heap.size W w' :=
  (dk_All W g own d h.dk hn).mono (fun e w' ⟨v, q1, q2, q3, q4, q5⟩ => ⟨v, q1, q2, q5⟩)
theorem st_Read (h : St w5 W g own d) (i : Int) : Calls Try.prog 29 #[.pointer (some ⟨g, 0, none⟩), .int .i64 i] W fun e w' => e = .returned (.tuple #[.string (d.read i).1, .int .i64 (d.read i).2]) ∧ St w5 w' g own d.readD ∧ Kp W w' g none :=
  (dk_Read W g own d i h.dk).mono (fun e w' q => ⟨q.1, h.kpp q.2.1 q.2.2 (.inl rfl), q.2.2⟩)
theorem st_Limit (h : St w5 W g own d) (n : Int) : Calls Try.prog 28 #[.pointer (some ⟨g, 0, none⟩), .int .i64 n] W fun e w' => e = .returned (.tuple #[]) ∧ St w5 w' g own (d.limit n) ∧ Kp W w' g none :=
  (dk_Limit W g own d n h.dk).mono (fun e w' q => ⟨q.1, h.kpp q.2.1 q.2.2 (.inl rfl), q.2.2⟩)
theorem st_Sync (h : St w5 W g own d) : Calls Try.prog 26 #[.pointer (some ⟨g, 0, none⟩)] W fun e w' => e = .returned (.int .i64 (if d.left = 0 then 9 else 0)) ∧ ∃ own', St w5 w' g own' d.sync ∧ (own' = own ∨ own' = none) ∧ Kp W w' g none :=
  (dk_Sync W g own d h.dk).mono (fun e w' ⟨q1, ⟨own', q2, q3⟩, q4⟩ => ⟨q1, own', h.kpp q3 q4 q2, q2, q4⟩)
theorem st_Write (h : St w5 W g own d) (i : Int) (s : ByteArray) (hf : d.Few) : Calls Try.prog 25 #[.pointer (some ⟨g, 0, none⟩), .int .i64 i, .string s] W fun e w' => e = .returned (.int .i64 (d.writeE i s)) ∧ ∃ own', St w5 w' g own' (d.write i s) ∧ Mv W w' g own own' :=
  (dk_Write W g own d i s h.dk hf).mono (fun e w' ⟨q1, own', q2, q3⟩ => ⟨q1, own', h.mv q2 q3, q3⟩)
theorem st_Crash (h : St w5 W g own d) (Al : Option Addr) (cl : Nat) (l : List Ch) (hok : d.Ok) (hl : Kd.V kCh 54 W 0 (fun k => k ≠ g) (.slice Al l.length cl) l) (hll : l.length < 1099511627776) : Calls Try.prog 27 #[.pointer (some ⟨g, 0, none⟩), .slice Al l.length cl] W fun e w' => e = .returned (.tuple #[]) ∧ St w5 w' g none (d.crash l) ∧ Kp W w' g none :=
  (dk_Crash W g own d Al cl l h.dk hok hl hll).mono (fun e w' q => ⟨q.1, h.kpp q.2.1 q.2.2 (.inr rfl), q.2.2⟩)
theorem st_Write' (h : St w5 W g own d) (i : Int) (s : ByteArray) (hf : d.Few) {r : Int} {d' : Dk} (hr : d.writeE i s = r) (hd : d.write i s = d') : Calls Try.prog 25 #[.pointer (some ⟨g, 0, none⟩), .int .i64 i, .string s] W fun e w' => e = .returned (.int .i64 r) ∧ ∃ own', St w5 w' g own' d' ∧ Mv W w' g own own' := by
  subst hr; subst hd; exact st_Write h i s hf
theorem st_Len' (h : St w5 W g own d) {n : Int} (hn : (d.now.length : Int) = n) : Calls Try.prog 15 #[.pointer (some ⟨g, 0, none⟩)] W fun e w' => e = .returned (.int .i64 n) ∧ Below W.heap.size W w' := by
  subst hn; exact st_Len h
theorem st_Reads' (h : St w5 W g own d) {n : Int} (hn : d.reads = n) : Calls Try.prog 17 #[.pointer (some ⟨g, 0, none⟩)] W fun e w' => e = .returned (.int .i64 n) ∧ Below W.heap.size W w' := by
  subst hn; exact st_Reads h
theorem st_Page' (h : St w5 W g own d) {n : Int} (hn : d.p = n) : Calls Try.prog 21 #[.pointer (some ⟨g, 0, none⟩)] W fun e w' => e = .returned (.int .i64 n) ∧ Below W.heap.size W w' := by
  subst hn; exact st_Page h
theorem st_Room' (h : St w5 W g own d) {n : Int} (hn : d.room = n) : Calls Try.prog 22 #[.pointer (some ⟨g, 0, none⟩)] W fun e w' => e = .returned (.int .i64 n) ∧ Below W.heap.size W w' := by
  subst hn; exact st_Room h
theorem st_All' (h : St w5 W g own d) (hn : d.now.length < 8796093022208) {l : List ByteArray} (hl : d.now = l) : Calls Try.prog 19 #[.pointer (some ⟨g, 0, none⟩)] W fun e w' => ∃ v : Value, e = .returned v ∧ Kd.R Kd.string 9 w' W.heap.size (fun _ => True) v l ∧ Below W.heap.size W w' := by
  subst hl; exact st_All h hn
theorem st_Read' (h : St w5 W g own d) (i : Int) {s : ByteArray} {r : Int} {d' : Dk} (hr : d.read i = (s, r)) (hd : d.readD = d') : Calls Try.prog 29 #[.pointer (some ⟨g, 0, none⟩), .int .i64 i] W fun e w' => e = .returned (.tuple #[.string s, .int .i64 r]) ∧ St w5 w' g own d' ∧ Kp W w' g none := by
  have q := st_Read h i
  rw [hr, hd] at q
  exact q
theorem st_Limit' (h : St w5 W g own d) (n : Int) {d' : Dk} (hd : d.limit n = d') : Calls Try.prog 28 #[.pointer (some ⟨g, 0, none⟩), .int .i64 n] W fun e w' => e = .returned (.tuple #[]) ∧ St w5 w' g own d' ∧ Kp W w' g none := by
  subst hd; exact st_Limit h n
theorem st_Sync' (h : St w5 W g own d) {r : Int} {d' : Dk} (hr : (if d.left = 0 then 9 else 0) = r) (hd : d.sync = d') : Calls Try.prog 26 #[.pointer (some ⟨g, 0, none⟩)] W fun e w' => e = .returned (.int .i64 r) ∧ ∃ own', St w5 w' g own' d' ∧ (own' = own ∨ own' = none) ∧ Kp W w' g none := by
  subst hr; subst hd; exact st_Sync h
theorem st_Crash' (h : St w5 W g own d) {v : Value} {base : Nat} {l : List Ch} (hok : d.Ok) (hl : Kd.R kCh 54 W base (fun _ => True) v l) (hg : g < base) (hll : l.length < 1099511627776) {d' : Dk} (hd : d.crash l = d') : Calls Try.prog 27 #[.pointer (some ⟨g, 0, none⟩), v] W fun e w' => e = .returned (.tuple #[]) ∧ St w5 w' g none d' ∧ Kp W w' g none := by
  subst hd
  obtain ⟨A, c, rfl⟩ := Kd.R_slice hl
  exact st_Crash h A c l hok (Kd.V_mono (Kd.R_V (base' := 0) (Kd.R_tight rfl hl)) (fun k hk => by
    have q := Kd.R_base hl k hk.symm
    omega)) hll
end
/-! ### pages of one byte -/
/-- A page of 128 bytes c. -/
def pageB (c : Int) : ByteArray := strOfNums (List.replicate 128 c)
theorem repeat_l (c n : Int) : ∀ (m j : Nat), (j : Int) + m = n → n ≤ 100000 → withyref01_Repeat.l0 (m + 1) c n (List.replicate j c) j = some (strOfNums (List.replicate (j + m) c))
  | 0, j, h, h2 => by
    simp only [withyref01_Repeat.l0]
    rw [if_neg (by omega), Nat.add_zero]
  | m + 1, j, h, h2 => by
    rw [withyref01_Repeat.l0]
    rw [if_pos (by omega), if_pos (by rw [List.length_replicate]; omega)]
    have e : List.replicate j c ++ [c] = List.replicate (j + 1) c := by rw [List.replicate_succ']
    have e2 : wrap64 ((j : Int) + 1) = ((j + 1 : Nat) : Int) := by unfold wrap64; omega
    rw [e, e2, repeat_l c n m (j + 1) (by omega) h2, show j + 1 + m = j + (m + 1) by omega]
theorem page_f (c : Int) : withylaw06_page.f 129 c = some (pageB c) := by
  have h := repeat_l c 128 128 0 (by omega) (by omega)
  unfold withylaw06_page.f withyref01_Repeat.f
  have e : withyref01_Repeat.l0 129 c 128 ([] : List Int) 0 = some (strOfNums (List.replicate 128 c)) := by simpa using h
  rw [e]
  rfl
theorem page_calls (c : Int) (w : World) : Calls Try.prog 24 #[.int .u8 c] w fun e w' => e = .returned (.string (pageB c)) ∧ Below w.heap.size w w' := withylaw06_page.calls 129 c (pageB c) w (page_f c)
theorem pageB_size (c : Int) : (pageB c).size = 128 := by
  show ((List.replicate 128 c).map _).toArray.size = 128
  rw [List.size_toArray, List.length_map, List.length_replicate]
/-! ### texts compared -/
theorem words_l (l : List ByteArray) (hl : l.length < 1099511627776) : ∀ (m j : Nat), j + m = l.length → withyref01_Words.l0 (m + 1) l l j = some true
  | 0, j, h => by
    simp only [withyref01_Words.l0]
    rw [if_neg (by omega)]
  | m + 1, j, h => by
    rw [withyref01_Words.l0]
    have e2 : wrap64 ((j : Int) + 1) = ((j + 1 : Nat) : Int) := by unfold wrap64; omega
    rw [if_pos (by omega), if_pos (by omega), if_pos (by omega), if_pos rfl, e2, words_l l hl m (j + 1) (by omega)]
theorem words_same (l : List ByteArray) (hl : l.length < 1099511627776) : withyref01_Words.f (l.length + 1) l l = some true := by
  unfold withyref01_Words.f
  rw [if_pos rfl]
  exact words_l l hl l.length 0 (by omega)
theorem words_calls (w : World) (A0 : Option Addr) (c0 : Nat) (l : List ByteArray) (A1 : Option Addr) (c1 : Nat) (hr0 : Kd.C Kd.string w A0 l.length l) (hc0 : l.length ≤ c0) (hr1 : Kd.C Kd.string w A1 l.length l) (hc1 : l.length ≤ c1) (hl : l.length < 1099511627776) :
    Calls Try.prog 18 #[.slice A0 l.length c0, .slice A1 l.length c1] w fun e w' => e = .returned (.bool true) ∧ Below w.heap.size w w' :=
  (withyref01_Words.calls (l.length + 1) A0 c0 l A1 c1 l true w hr0 hc0 hr1 hc1 (words_same l hl)).mono (fun e w' q => ⟨q.1, q.2.below⟩)
theorem words_R {w : World} {b1 b2 : Nat} {v1 v2 : Value} {ok1 ok2 : Nat → Prop} {l : List ByteArray} (h1 : Kd.R Kd.string 9 w b1 ok1 v1 l) (h2 : Kd.R Kd.string 9 w b2 ok2 v2 l) (hl : l.length < 1099511627776) :
    Calls Try.prog 18 #[v1, v2] w fun e w' => e = .returned (.bool true) ∧ Below w.heap.size w w' := by
  obtain ⟨A0, c0, rfl, q0, r0⟩ := Kd.R_reads h1
  obtain ⟨A1, c1, rfl, q1, r1⟩ := Kd.R_reads h2
  exact words_calls w A0 c0 l A1 c1 r0 q0 r1 q1 hl
/-- A literal of two texts. -/
theorem lit2 (W : World) (a b : ByteArray) : Kd.R Kd.string 9 (W.alloc (.cells #[.string a, .string b] 9)) W.heap.size (fun _ => True) (.slice (some ⟨W.heap.size, 0, none⟩) 2 2) [a, b] := by
  refine ⟨fun k hk => trivial, [.string a, .string b], ?_, Reps.one rfl (Reps.one rfl (Reps.none _ _))⟩
  exact World.ownsRow_lit (base := W.heap.size) (e := 9) (size := 1) W #[.string a, .string b] 2 (Nat.le_refl _) (by simp [maxLen]) (by simp)
end Go.Proofs.Ytnmdpjbpbiempaa.P
