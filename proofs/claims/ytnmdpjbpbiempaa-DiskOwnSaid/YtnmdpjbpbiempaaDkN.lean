/- What is proved here: what disk.From and disk.New answer, whole; a page's size and a disk's room. Conditions: as each theorem names them. -/
import Derived.Test.YtnmdpjbpbiempaaDkF
set_option linter.unusedVariables false
set_option linter.unusedSimpArgs false
namespace Go.Proofs.Ytnmdpjbpbiempaa.P
open Go.RowKit Go.Proofs.YtnmdpjbpbiempaaW.PrintWords Go.Proofs.YtnmdpjbpbiempaaW.PrintLast Go.Proofs.YtnmdpjbpbiempaaW.PrintMore
set_option maxHeartbeats 8000000 in
set_option maxRecDepth 100000 in
theorem dk_From_size (w : World) (p room : Int) (s : ByteArray) (hsz : disk_Size.f p = some false) :
    Calls Try.prog 9 #[.int .i64 p, .int .i64 room, .string s] w fun e w' => e = .returned (.tuple #[.pointer none, .int .i64 4]) ∧ Below w.heap.size w w' := by
  have HB := Aside0.mk (Below.refl w.heap.size w)
  go_enter Try.func9, Try.ntmps9
  go_wp2_with (first | (go_at_call 11; refine (disk_Size.calls p false _ hsz).mono ?_; rintro e w1 ⟨rfl, b1⟩; have n1_ := Aside0.mk (below_step (by repeat (first | exact HB.out | apply below_alloc | apply pw_below_drewN | apply below_drew1)) b1); clear HB b1; have HB := n1_; clear n1_))
  go_ret2
  exact ⟨by first | rfl | (simp; done), by repeat (first | exact HB.out | apply below_alloc | apply pw_below_drewN | apply below_drew1)⟩
set_option maxHeartbeats 8000000 in
set_option maxRecDepth 100000 in
theorem dk_From_room1 (w : World) (p room : Int) (s : ByteArray) (hsz : disk_Size.f p = some true) (h1 : room < 1) :
    Calls Try.prog 9 #[.int .i64 p, .int .i64 room, .string s] w fun e w' => e = .returned (.tuple #[.pointer none, .int .i64 4]) ∧ Below w.heap.size w w' := by
  have HB := Aside0.mk (Below.refl w.heap.size w)
  have c1 : decide (room < 1) = true := decide_eq_true h1
  clear h1
  go_enter Try.func9, Try.ntmps9
  go_wp2_with (first | (go_at_call 11; refine (disk_Size.calls p true _ hsz).mono ?_; rintro e w1 ⟨rfl, b1⟩; have n1_ := Aside0.mk (below_step (by repeat (first | exact HB.out | apply below_alloc | apply pw_below_drewN | apply below_drew1)) b1); clear HB b1; have HB := n1_; clear n1_))
  go_ret2
  exact ⟨by first | rfl | (simp; done), by repeat (first | exact HB.out | apply below_alloc | apply pw_below_drewN | apply below_drew1)⟩
set_option maxHeartbeats 8000000 in
set_option maxRecDepth 100000 in
theorem dk_From_room2 (w : World) (p room : Int) (s : ByteArray) (hsz : disk_Size.f p = some true) (h1 : ¬ room < 1) (h2 : 4096 < room) :
    Calls Try.prog 9 #[.int .i64 p, .int .i64 room, .string s] w fun e w' => e = .returned (.tuple #[.pointer none, .int .i64 4]) ∧ Below w.heap.size w w' := by
  have HB := Aside0.mk (Below.refl w.heap.size w)
  have c1 : decide (room < 1) = false := decide_eq_false h1
  have c2 : decide (4096 < room) = true := decide_eq_true h2
  clear h1 h2
  go_enter Try.func9, Try.ntmps9
  go_wp2_with (first | (go_at_call 11; refine (disk_Size.calls p true _ hsz).mono ?_; rintro e w1 ⟨rfl, b1⟩; have n1_ := Aside0.mk (below_step (by repeat (first | exact HB.out | apply below_alloc | apply pw_below_drewN | apply below_drew1)) b1); clear HB b1; have HB := n1_; clear n1_))
  go_ret2
  exact ⟨by first | rfl | (simp; done), by repeat (first | exact HB.out | apply below_alloc | apply pw_below_drewN | apply below_drew1)⟩
set_option maxHeartbeats 8000000 in
set_option maxRecDepth 100000 in
theorem dk_From_full (w : World) (p room : Int) (s : ByteArray) (hsz : disk_Size.f p = some true) (h1 : ¬ room < 1) (h2 : ¬ 4096 < room) (h3 : wrap64 (room * p) = room * p) (h4 : room * p < (s.size : Int)) :
    Calls Try.prog 9 #[.int .i64 p, .int .i64 room, .string s] w fun e w' => e = .returned (.tuple #[.pointer none, .int .i64 2]) ∧ Below w.heap.size w w' := by
  have HB := Aside0.mk (Below.refl w.heap.size w)
  have c1 : decide (room < 1) = false := decide_eq_false h1
  have c2 : decide (4096 < room) = false := decide_eq_false h2
  have c3 : decide (room * p < (s.size : Int)) = true := decide_eq_true h4
  clear h1 h2 h4
  go_enter Try.func9, Try.ntmps9
  go_wp2_with (first | (go_at_call 11; refine (disk_Size.calls p true _ hsz).mono ?_; rintro e w1 ⟨rfl, b1⟩; have n1_ := Aside0.mk (below_step (by repeat (first | exact HB.out | apply below_alloc | apply pw_below_drewN | apply below_drew1)) b1); clear HB b1; have HB := n1_; clear n1_))
  go_ret2
  exact ⟨by first | rfl | (simp; done), by repeat (first | exact HB.out | apply below_alloc | apply pw_below_drewN | apply below_drew1)⟩
theorem size_f (p : Int) : disk_Size.f p = some (decide (p = 128) || decide (p = 256) || decide (p = 512) || decide (p = 1024)) := rfl
/-- May a page's size be? -/
def szOk (p : Int) : Bool := decide (p = 128) || decide (p = 256) || decide (p = 512) || decide (p = 1024)
theorem szOk_le {p : Int} (h : szOk p = true) : 0 < p ∧ p ≤ 1024 := by simp [szOk] at h; omega
/-- What From's error is. -/
def fromE (p room : Int) (s : ByteArray) : Int := if szOk p = false then 4 else if room < 1 then 4 else if 4096 < room then 4 else if room * p < (s.size : Int) then 2 else 0
/-- How many pages bytes take. -/
def pagesN (p : Int) (s : ByteArray) : Nat := (s.size + p.toNat - 1) / p.toNat
/-- The bytes, with bytes 0 behind. -/
def padded (p : Int) (s : ByteArray) : ByteArray := if (s.size : Int) % p = 0 then s else s ++ ⟨(Lib.repeatL [0] (p - (s.size : Int) % p).toNat).toArray⟩
/-- The disk that From makes. -/
def fromD (p room : Int) (s : ByteArray) (M : Nat → Prop) : Dk := { p := p, room := room, reads := 0, kept := pages p (padded p s) (pagesN p s), now := pages p (padded p s) (pagesN p s), pend := [], left := -1, M := M }
theorem repeatL_len (n : Nat) : (Lib.repeatL [(0 : UInt8)] n).length = n := by
  induction n with
  | zero => rfl
  | succ n ih => simp [Lib.repeatL, ih]
theorem dk_From_err (w : World) (p room : Int) (s : ByteArray) (h : fromE p room s ≠ 0) :
    Calls Try.prog 9 #[.int .i64 p, .int .i64 room, .string s] w fun e w' => e = .returned (.tuple #[.pointer none, .int .i64 (fromE p room s)]) ∧ Below w.heap.size w w' := by
  unfold fromE at h ⊢
  by_cases h0 : szOk p = false
  · rw [if_pos h0]; exact dk_From_size w p room s (by rw [size_f]; exact congrArg some h0)
  rw [if_neg h0] at h ⊢
  have h0t : szOk p = true := by simpa using h0
  have hsz : disk_Size.f p = some true := by rw [size_f]; exact congrArg some h0t
  have hp := szOk_le h0t
  by_cases h1 : room < 1
  · rw [if_pos h1]; exact dk_From_room1 w p room s hsz h1
  rw [if_neg h1] at h ⊢
  by_cases h2 : 4096 < room
  · rw [if_pos h2]; exact dk_From_room2 w p room s hsz h1 h2
  rw [if_neg h2] at h ⊢
  by_cases h3 : room * p < (s.size : Int)
  · rw [if_pos h3]
    have hm0 : 0 ≤ room * p := Int.mul_nonneg (by omega) (by omega)
    have hm1 : room * p ≤ 4096 * 1024 := Int.mul_le_mul (by omega) hp.2 (by omega) (by omega)
    exact dk_From_full w p room s hsz h1 h2 (w64 (by omega) (by omega)) h3
  rw [if_neg h3] at h
  exact absurd rfl h
theorem dk_From (w : World) (p room : Int) (s : ByteArray) (M : Nat → Prop) (hM : ∀ k, w.heap.size ≤ k → M k) (h : fromE p room s = 0) :
    Calls Try.prog 9 #[.int .i64 p, .int .i64 room, .string s] w fun e w' => ∃ g, w.heap.size ≤ g ∧ e = .returned (.tuple #[.pointer (some ⟨g, 0, none⟩), .int .i64 0]) ∧ DkAt w' g none (fromD p room s M) ∧ Below w.heap.size w w' := by
  unfold fromE at h
  by_cases h0 : szOk p = false
  · rw [if_pos h0] at h; exact absurd h (by decide)
  rw [if_neg h0] at h
  have h0t : szOk p = true := by simpa using h0
  have hsz : disk_Size.f p = some true := by rw [size_f]; exact congrArg some h0t
  have hp := szOk_le h0t
  by_cases h1 : room < 1
  · rw [if_pos h1] at h; exact absurd h (by decide)
  rw [if_neg h1] at h
  by_cases h2 : 4096 < room
  · rw [if_pos h2] at h; exact absurd h (by decide)
  rw [if_neg h2] at h
  by_cases h3 : room * p < (s.size : Int)
  · rw [if_pos h3] at h; exact absurd h (by decide)
  have hm0 : 0 ≤ room * p := Int.mul_nonneg (by omega) (by omega)
  have hm1 : room * p ≤ 4096 * 1024 := Int.mul_le_mul (by omega) hp.2 (by omega) (by omega)
  have hpt : ((p.toNat : Nat) : Int) = p := Int.toNat_of_nonneg (by omega)
  obtain ⟨q, hq⟩ : ∃ q : Nat, q = p.toNat := ⟨_, rfl⟩
  rw [← hq] at hpt
  have hq0 : 0 < q := by omega
  have hdm := Nat.div_add_mod s.size q
  have hml := Nat.mod_lt s.size hq0
  have hmm : (s.size : Int) % p = ((s.size % q : Nat) : Int) := by rw [← hpt]; rfl
  have hbig : s.size ≤ 4096 * q := by
    have : (s.size : Int) ≤ 4096 * p := Int.le_trans (by omega) (Int.mul_le_mul_of_nonneg_right (show room ≤ 4096 by omega) (by omega))
    omega
  have hdle : s.size / q ≤ 4096 := Nat.div_le_of_le_mul (by rw [Nat.mul_comm]; exact hbig)
  by_cases hr : (s.size : Int) % p = 0
  · have e1 : padded p s = s := if_pos hr
    have hr' : s.size % q = 0 := by omega
    have e2 : pagesN p s = s.size / q := by
      unfold pagesN
      rw [← hq]
      rw [show s.size + q - 1 = q * (s.size / q) + (q - 1) by omega, Nat.mul_add_div hq0, Nat.div_eq_of_lt (show q - 1 < q by omega)]
      rfl
    unfold fromD
    rw [e1, e2]
    have hN3 : (s.size : Int) = ((s.size / q : Nat) : Int) * p := by
      rw [← hpt, Int.mul_comm]
      have h5 : s.size = q * (s.size / q) := by omega
      exact (congrArg Int.ofNat h5).trans (Int.natCast_mul _ _)
    exact dk_From_whole w p room s (s.size / q) M hM hp.1 hp.2 hsz (by omega) (by omega) (by omega) hr hN3 (by omega)
  · obtain ⟨z, hz⟩ : ∃ z : ByteArray, z = ⟨(Lib.repeatL [0] (p - (s.size : Int) % p).toNat).toArray⟩ := ⟨_, rfl⟩
    have e1 : padded p s = s ++ z := by rw [hz]; exact if_neg hr
    have hr' : 0 < s.size % q := by omega
    have hzs : z.size = q - s.size % q := by
      rw [hz]
      show (Lib.repeatL [0] (p - (s.size : Int) % p).toNat).toArray.size = _
      rw [List.size_toArray, repeatL_len, hmm]
      omega
    have e2 : pagesN p s = s.size / q + 1 := by
      unfold pagesN
      rw [← hq]
      rw [show s.size + q - 1 = q * (s.size / q) + (q + (s.size % q - 1)) by omega, Nat.mul_add_div hq0, Nat.add_div_left _ hq0, Nat.div_eq_of_lt (show s.size % q - 1 < q by omega)]
    unfold fromD
    rw [e1, e2]
    have hts : (s ++ z).size = (s.size / q + 1) * q := by
      rw [ByteArray.size_append, hzs, Nat.add_mul, Nat.mul_comm (s.size / q) q]
      first | done | omega
    have h9 : q * (s.size / q) ≤ q * 4096 := Nat.mul_le_mul_left q hdle
    exact dk_From_part w p room s (s.size / q + 1) M hM hp.1 hp.2 hsz (by omega) (by omega) (by omega) (by omega) z (s ++ z) (by
      unfold strings_Repeat.f
      rw [if_pos (by omega), if_pos (by omega), if_pos (by show 1 * (p - (s.size : Int) % p).toNat ≤ _; omega), hz]) rfl (by rw [ByteArray.size_append, hzs]; omega) (by rw [hts, ← hpt]; exact Int.natCast_mul _ _) (by omega)
set_option maxHeartbeats 8000000 in
set_option maxRecDepth 100000 in
theorem dk_New (w : World) (p room : Int) (M : Nat → Prop) (hM : ∀ k, w.heap.size ≤ k → M k) (h : fromE p room ⟨#[]⟩ = 0) :
    Calls Try.prog 23 #[.int .i64 p, .int .i64 room] w fun e w' => ∃ g, w.heap.size ≤ g ∧ e = .returned (.tuple #[.pointer (some ⟨g, 0, none⟩), .int .i64 0]) ∧ DkAt w' g none (fromD p room ⟨#[]⟩ M) ∧ Below w.heap.size w w' := by
  have HB := Aside0.mk (Below.refl w.heap.size w)
  go_enter Try.func23, Try.ntmps23
  go_wp2_with (first | (go_at_call 9; refine (dk_From _ p room ⟨#[]⟩ M (fun k hk => hM k (by simpa using hk)) h).mono ?_; rintro e w1 ⟨g, hg, rfl, hd, b1⟩; have HD := Aside0.mk hd; have HG := Aside0.mk (show w.heap.size ≤ g by simpa using hg); have n1_ := Aside0.mk (below_step (by repeat (first | exact HB.out | apply below_alloc | apply pw_below_drewN | apply below_drew1)) b1); clear HB b1 hd hg; have HB := n1_; clear n1_))
  go_ret2
  exact ⟨g, HG.out, by first | rfl | (simp; done), by repeat (first | exact HD.out | apply DkAt.drewN | apply DkAt.drew), by repeat (first | exact HB.out | apply below_alloc | apply pw_below_drewN | apply below_drew1)⟩
set_option maxHeartbeats 8000000 in
set_option maxRecDepth 100000 in
theorem dk_New_err (w : World) (p room : Int) (h : fromE p room ⟨#[]⟩ ≠ 0) :
    Calls Try.prog 23 #[.int .i64 p, .int .i64 room] w fun e w' => e = .returned (.tuple #[.pointer none, .int .i64 (fromE p room ⟨#[]⟩)]) ∧ Below w.heap.size w w' := by
  have HB := Aside0.mk (Below.refl w.heap.size w)
  go_enter Try.func23, Try.ntmps23
  go_wp2_with (first | (go_at_call 9; refine (dk_From_err _ p room ⟨#[]⟩ h).mono ?_; rintro e w1 ⟨rfl, b1⟩; have n1_ := Aside0.mk (below_step (by repeat (first | exact HB.out | apply below_alloc | apply pw_below_drewN | apply below_drew1)) b1); clear HB b1; have HB := n1_; clear n1_))
  go_ret2
  exact ⟨by first | rfl | (simp; done), by repeat (first | exact HB.out | apply below_alloc | apply pw_below_drewN | apply below_drew1)⟩
set_option maxHeartbeats 8000000 in
set_option maxRecDepth 100000 in
theorem dk_Page (w : World) (g : Nat) (own : Option Nat) (d : Dk) (h : DkAt w g own d) :
    Calls Try.prog 21 #[.pointer (some ⟨g, 0, none⟩)] w fun e w' => e = .returned (.int .i64 d.p) ∧ DkAt w' g own d ∧ Kp w w' g none ∧ Below w.heap.size w w' := by
  have HI := Aside0.mk h
  have HK := Aside0.mk (Kp.refl w g none)
  obtain ⟨A3, c3, A4, c4, A5, c5, h0, -⟩ := h
  have hc4 := cellS67_0 h0
  have hf4 := blk_frozen h0 0
  clear h0
  go_enter Try.func21, Try.ntmps21
  go_wp2
  go_ret
  exact ⟨by first | rfl | (simp; done), by repeat (first | (with_reducible first | exact HI.out | apply DkAt.alloc | apply DkAt.drewN | apply DkAt.drew) | exact HI.out), by repeat (first | (with_reducible first | exact HK.out | apply kp_drewN | apply kp_drew | apply kp_alloc) | exact HK.out), by repeat (first | exact Below.refl _ _ | apply pw_below_drewN | apply below_drew1)⟩
set_option maxHeartbeats 8000000 in
set_option maxRecDepth 100000 in
theorem dk_Room (w : World) (g : Nat) (own : Option Nat) (d : Dk) (h : DkAt w g own d) :
    Calls Try.prog 22 #[.pointer (some ⟨g, 0, none⟩)] w fun e w' => e = .returned (.int .i64 d.room) ∧ DkAt w' g own d ∧ Kp w w' g none ∧ Below w.heap.size w w' := by
  have HI := Aside0.mk h
  have HK := Aside0.mk (Kp.refl w g none)
  obtain ⟨A3, c3, A4, c4, A5, c5, h0, -⟩ := h
  have hc4 := cellS67_1 h0
  have hf4 := blk_frozen h0 1
  clear h0
  go_enter Try.func22, Try.ntmps22
  go_wp2
  go_ret
  exact ⟨by first | rfl | (simp; done), by repeat (first | (with_reducible first | exact HI.out | apply DkAt.alloc | apply DkAt.drewN | apply DkAt.drew) | exact HI.out), by repeat (first | (with_reducible first | exact HK.out | apply kp_drewN | apply kp_drew | apply kp_alloc) | exact HK.out), by repeat (first | exact Below.refl _ _ | apply pw_below_drewN | apply below_drew1)⟩
end Go.Proofs.Ytnmdpjbpbiempaa.P
