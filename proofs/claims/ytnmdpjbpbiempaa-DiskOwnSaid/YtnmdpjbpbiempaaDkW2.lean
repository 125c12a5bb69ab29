/- What is proved here: what any write does to a disk in memory. Conditions: few pages. -/
import Derived.Test.YtnmdpjbpbiempaaDkW
set_option linter.unusedVariables false
set_option linter.unusedSimpArgs false
namespace Go.Proofs.Ytnmdpjbpbiempaa.P
open Go.RowKit Go.Proofs.YtnmdpjbpbiempaaW.PrintWords Go.Proofs.YtnmdpjbpbiempaaW.PrintLast Go.Proofs.YtnmdpjbpbiempaaW.PrintMore
/-- A page of bytes 0. -/
def zeroPage (p : Int) : ByteArray := ⟨(Lib.repeatL [0] p.toNat).toArray⟩
/-- A page put into a list. -/
def putL (p : Int) (l : List ByteArray) (i : Int) (s : ByteArray) : List ByteArray := (l ++ List.replicate (i.toNat + 1 - l.length) (zeroPage p)).set i.toNat s
theorem put_l0 (p room reads left : Int) (kept now : List ByteArray) (pend : List S79) (i : Int) (s : ByteArray) (h0 : 0 ≤ i) (hi : i < 1099511627776) (hp : 0 ≤ p) (hp2 : p ≤ 1099511627776) :
    ∀ (n : Nat) (l : List ByteArray), i.toNat + 1 - l.length = n → disk_Disk_put.l0 (n + 1) l p room reads kept now pend left i s = some (putL p l i s, p, room, reads, left) := by
  intro n
  induction n with
  | zero =>
    intro l hn
    have h1 : i < (l.length : Int) := by omega
    simp only [disk_Disk_put.l0]
    rw [if_neg (by omega), if_pos h0, if_pos h1]
    simp [putL, hn]
  | succ n ih =>
    intro l hn
    rw [disk_Disk_put.l0]
    have e : strings_Repeat.f (⟨#[0]⟩ : ByteArray) p = some (zeroPage p) := by
      unfold strings_Repeat.f
      rw [if_pos hp, if_pos (by omega), if_pos (by show 1 * p.toNat ≤ _; omega)]
      rfl
    rw [if_pos (by omega), e, Option.bind_some, if_pos (by omega), ih (l ++ [zeroPage p]) (by simp; omega)]
    have e2 : (l ++ [zeroPage p]) ++ List.replicate (i.toNat + 1 - (l ++ [zeroPage p]).length) (zeroPage p) = l ++ List.replicate (i.toNat + 1 - l.length) (zeroPage p) := by
      rw [hn, show i.toNat + 1 - (l ++ [zeroPage p]).length = n by simp; omega, List.append_assoc, List.replicate_succ]
      rfl
    simp only [putL, e2]
theorem put_f (p room reads left : Int) (kept now : List ByteArray) (pend : List S79) (l : List ByteArray) (i : Int) (s : ByteArray) (h0 : 0 ≤ i) (hi : i < 1099511627776) (hp : 0 ≤ p) (hp2 : p ≤ 1099511627776) (hl : l.length < 1099511627776) :
    disk_Disk_put.f (i.toNat + 1 - l.length + 1) p room reads kept now pend left l i s = some (putL p l i s, p, room, reads, left) := by
  unfold disk_Disk_put.f
  rw [if_pos (by simp; omega), List.nil_append]
  exact put_l0 p room reads left kept now pend i s h0 hi hp hp2 _ l rfl
/-- What a write answers. -/
def Dk.writeE (d : Dk) (i : Int) (s : ByteArray) : Int := if d.left = 0 then 9 else if i < 0 then 4 else if (s.size : Int) ≠ d.p then 4 else if i ≥ d.room then 2 else 0
/-- What a write leaves. -/
def Dk.write (d : Dk) (i : Int) (s : ByteArray) : Dk := if d.left = 0 then d else if i < 0 then d else if (s.size : Int) ≠ d.p then d else if i ≥ d.room then d else ({ d with now := putL d.p d.now i s, pend := d.pend ++ [⟨i, s⟩] } : Dk).done
/-- A disk's sizes may be counted. -/
structure Dk.Few (d : Dk) : Prop where
  p0 : 0 ≤ d.p
  p1 : d.p ≤ 1099511627776
  room : d.room ≤ 1099511627776
  now : d.now.length < 1099511627776
  kept : d.kept.length < 1099511627776
  pend : d.pend.length < 1099511627776
set_option maxHeartbeats 8000000 in
set_option maxRecDepth 100000 in
theorem dk_Write (w : World) (g : Nat) (own : Option Nat) (d : Dk) (i : Int) (s : ByteArray) (h : DkAt w g own d) (hf : d.Few) :
    Calls Try.prog 25 #[.pointer (some ⟨g, 0, none⟩), .int .i64 i, .string s] w fun e w' => e = .returned (.int .i64 (d.writeE i s)) ∧ (∃ own', DkAt w' g own' (d.write i s) ∧ Mv w w' g own own') := by
  unfold Dk.writeE Dk.write
  by_cases c0 : d.left = 0
  · rw [if_pos c0, if_pos c0]
    have HI := Aside0.mk h
    have HK := Aside0.mk (Kp.refl w g none)
    have c0b : (d.left != 0) = false := bne_eq_false_iff_eq.mpr c0
    clear h hf c0
    go_enter Try.func25, Try.ntmps25
    go_wp2_with (first | (go_at_call 40; refine (dk_ask _ g own d (by repeat (first | exact HI.out | apply DkAt.alloc | apply DkAt.drewN | apply DkAt.drew))).mono ?_; rw [c0b]; rintro e w1 ⟨rfl, h1, k1, b1⟩; have n1_ := Aside0.mk (Kp.trans (by repeat (first | exact HK.out | apply kp_drewN | apply kp_drew | apply kp_alloc)) k1 (.inl rfl)); clear HI HK k1; have HI := Aside0.mk h1; have HK := n1_; clear h1 n1_))
    go_ret
    exact ⟨by first | rfl | (simp; done), own, by repeat (first | exact HI.out | apply DkAt.alloc | apply DkAt.drewN | apply DkAt.drew), Mv.of_none (by repeat (first | exact HK.out | apply kp_drewN | apply kp_drew | apply kp_alloc))⟩
  rw [if_neg c0, if_neg c0]
  by_cases c1 : i < 0
  · rw [if_pos c1, if_pos c1]
    have HI := Aside0.mk h
    have HK := Aside0.mk (Kp.refl w g none)
    have c0b : (d.left != 0) = true := bne_iff_ne.mpr c0
    have c1b : decide (i < 0) = true := decide_eq_true c1
    clear h hf c0 c1
    go_enter Try.func25, Try.ntmps25
    go_wp2_with (first | (go_at_call 40; refine (dk_ask _ g own d (by repeat (first | exact HI.out | apply DkAt.alloc | apply DkAt.drewN | apply DkAt.drew))).mono ?_; rw [c0b]; rintro e w1 ⟨rfl, h1, k1, b1⟩; have n1_ := Aside0.mk (Kp.trans (by repeat (first | exact HK.out | apply kp_drewN | apply kp_drew | apply kp_alloc)) k1 (.inl rfl)); clear HI HK k1; have HI := Aside0.mk h1; have HK := n1_; clear h1 n1_))
    go_ret
    exact ⟨by first | rfl | (simp; done), own, by repeat (first | exact HI.out | apply DkAt.alloc | apply DkAt.drewN | apply DkAt.drew), Mv.of_none (by repeat (first | exact HK.out | apply kp_drewN | apply kp_drew | apply kp_alloc))⟩
  rw [if_neg c1, if_neg c1]
  by_cases c2 : (s.size : Int) ≠ d.p
  · rw [if_pos c2, if_pos c2]
    have HI := Aside0.mk h
    have HK := Aside0.mk (Kp.refl w g none)
    have c0b : (d.left != 0) = true := bne_iff_ne.mpr c0
    have c1b : decide (i < 0) = false := decide_eq_false c1
    have c2b : ((s.size : Int) != d.p) = true := bne_iff_ne.mpr c2
    clear h hf c0 c1 c2
    go_enter Try.func25, Try.ntmps25
    go_wp2_with (first | (go_at_call 40; refine (dk_ask _ g own d (by repeat (first | exact HI.out | apply DkAt.alloc | apply DkAt.drewN | apply DkAt.drew))).mono ?_; rw [c0b]; rintro e w1 ⟨rfl, h1, k1, b1⟩; have n1_ := Aside0.mk (Kp.trans (by repeat (first | exact HK.out | apply kp_drewN | apply kp_drew | apply kp_alloc)) k1 (.inl rfl)); clear HI HK k1; have HI := Aside0.mk h1; have HK := n1_; obtain ⟨A3, c3, A4, c4, A5, c5, h0, -⟩ := h1; have z0 := cellS67_0 h0; have z1 := cellS67_1 h0; clear n1_ h0))
    go_ret
    exact ⟨by first | rfl | (simp; done), own, by repeat (first | exact HI.out | apply DkAt.alloc | apply DkAt.drewN | apply DkAt.drew), Mv.of_none (by repeat (first | exact HK.out | apply kp_drewN | apply kp_drew | apply kp_alloc))⟩
  rw [if_neg c2, if_neg c2]
  have c2' : (s.size : Int) = d.p := Decidable.not_not.mp c2
  by_cases c3 : i ≥ d.room
  · rw [if_pos c3, if_pos c3]
    have HI := Aside0.mk h
    have HK := Aside0.mk (Kp.refl w g none)
    have c0b : (d.left != 0) = true := bne_iff_ne.mpr c0
    have c1b : decide (i < 0) = false := decide_eq_false c1
    have c2b : ((s.size : Int) != d.p) = false := bne_eq_false_iff_eq.mpr c2'
    have c3b : decide (d.room ≤ i) = true := decide_eq_true c3
    clear h hf c0 c1 c2 c2' c3
    go_enter Try.func25, Try.ntmps25
    go_wp2_with (first | (go_at_call 40; refine (dk_ask _ g own d (by repeat (first | exact HI.out | apply DkAt.alloc | apply DkAt.drewN | apply DkAt.drew))).mono ?_; rw [c0b]; rintro e w1 ⟨rfl, h1, k1, b1⟩; have n1_ := Aside0.mk (Kp.trans (by repeat (first | exact HK.out | apply kp_drewN | apply kp_drew | apply kp_alloc)) k1 (.inl rfl)); clear HI HK k1; have HI := Aside0.mk h1; have HK := n1_; obtain ⟨A3, c3, A4, c4, A5, c5, h0, -⟩ := h1; have z0 := cellS67_0 h0; have z1 := cellS67_1 h0; clear n1_ h0))
    go_ret
    exact ⟨by first | rfl | (simp; done), own, by repeat (first | exact HI.out | apply DkAt.alloc | apply DkAt.drewN | apply DkAt.drew), Mv.of_none (by repeat (first | exact HK.out | apply kp_drewN | apply kp_drew | apply kp_alloc))⟩
  rw [if_neg c3, if_neg c3]
  exact dk_Write_ok _ w g own d i s _ h hf.pend c0 (by omega) c2' (by omega) (put_f d.p d.room d.reads d.left d.kept d.now d.pend d.now i s (by omega) (by have := hf.room; omega) hf.p0 hf.p1 hf.now)
end Go.Proofs.Ytnmdpjbpbiempaa.P
