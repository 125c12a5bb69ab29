/- What is proved here: what disk.From and disk.New answer. Conditions: as each theorem names them. -/
import Derived.Test.YtnmdpjbpbiempaaDkW2
set_option linter.unusedVariables false
set_option linter.unusedSimpArgs false
namespace Go.Proofs.Ytnmdpjbpbiempaa.P
open Go.RowKit Go.Proofs.YtnmdpjbpbiempaaW.PrintWords Go.Proofs.YtnmdpjbpbiempaaW.PrintLast Go.Proofs.YtnmdpjbpbiempaaW.PrintMore
theorem w64 {n : Int} (h : -9223372036854775808 ≤ n) (h' : n < 9223372036854775808) : wrap64 n = n := by unfold wrap64; omega
/-- The j-th page of bytes. -/
def pageAt (p : Int) (s : ByteArray) (j : Nat) : ByteArray := s.extract (j * p.toNat) (j * p.toNat + p.toNat)
def pages (p : Int) (s : ByteArray) (n : Nat) : List ByteArray := (List.range n).map (pageAt p s)
theorem pages_len (p : Int) (s : ByteArray) (n : Nat) : (pages p s n).length = n := by simp [pages]
theorem pages_succ (p : Int) (s : ByteArray) (n : Nat) : pages p s (n + 1) = pages p s n ++ [pageAt p s n] := by simp [pages, List.range_succ]
/-- A disk that is being made. -/
def FromAt (b : Nat) (W : World) (g : Nat) (M : Nat → Prop) (p room : Int) (l : List ByteArray) : Prop :=
  ∃ (A3 : Option Addr) (c3 : Nat), W.heap[g]? = some (.cells #[.int .i64 p, .int .i64 room, .int .i64 0, .slice A3 l.length c3, .slice none 0 0, .slice none 0 0, .int .i64 (-1)] 67 (0, 0)) ∧
    Kd.R Kd.string 9 W b (fun k => k ≠ g ∧ M k) (.slice A3 l.length c3) l
theorem FromAt.below {b : Nat} {W W' : World} {g : Nat} {M : Nat → Prop} {p room : Int} {l : List ByteArray} (h : FromAt b W g M p room l) (hb : Below W.heap.size W W') : FromAt b W' g M p room l := by
  obtain ⟨A3, c3, h0, h1⟩ := h
  exact ⟨A3, c3, (hb.block _ (blk_lt h0)).trans h0, Kd.R_below h1 hb⟩
theorem FromAt.drew {b : Nat} {W : World} {g : Nat} {M : Nat → Prop} {p room : Int} {l : List ByteArray} (h : FromAt b W g M p room l) : FromAt b W.drew g M p room l := h.below (below_drew1 (Below.refl _ _))
theorem FromAt.drewN {b : Nat} {W : World} {g : Nat} {M : Nat → Prop} {p room : Int} {l : List ByteArray} (h : FromAt b W g M p room l) (m : Nat) : FromAt b (W.drewN m) g M p room l := h.below (pw_below_drewN (Below.refl _ _) m)
theorem FromAt.set {b : Nat} {W w1 : World} {g : Nat} {M : Nat → Prop} {p room : Int} {l l' : List ByteArray} {A3 : Option Addr} {c3 : Nat} (h : W.heap[g]? = some (.cells #[.int .i64 p, .int .i64 room, .int .i64 0, .slice A3 l.length c3, .slice none 0 0, .slice none 0 0, .int .i64 (-1)] 67 (0, 0))) (hr : Kd.R Kd.string 9 W b (fun k => k ≠ g ∧ M k) (.slice A3 l.length c3) l)
    (hg : W.grownBy w1 (Value.slice A3 l.length c3).ownBlock) {A : Option Addr} {c : Nat} (h1 : Kd.R Kd.string 9 w1 b (fun k => k ≠ g ∧ M k) (.slice A l'.length c) l') : FromAt b (w1.setCell ⟨g, 3, none⟩ (.slice A l'.length c)) g M p room l' := by
  have hne : some g ≠ (Value.slice A3 l.length c3).ownBlock := fun e => (hr.1 g e.symm).1 rfl
  exact ⟨A, c, blk_put (blk_grown h hg hne) 3 _ rfl, Kd.R_far h1 (fun _ hk => hk.1) _⟩
theorem FromAt.done {b : Nat} {W : World} {g : Nat} {M : Nat → Prop} {p room : Int} {l : List ByteArray} {A3 : Option Addr} {c3 : Nat} (h : W.heap[g]? = some (.cells #[.int .i64 p, .int .i64 room, .int .i64 0, .slice A3 l.length c3, .slice none 0 0, .slice none 0 0, .int .i64 (-1)] 67 (0, 0))) (hr : Kd.R Kd.string 9 W b (fun k => k ≠ g ∧ M k) (.slice A3 l.length c3) l) (hM : ∀ k, W.heap.size ≤ k → M k) :
    DkAt (W.setCell ⟨g, 4, none⟩ (.slice A3 l.length l.length)) g none { p := p, room := room, reads := 0, kept := l, now := l, pend := [], left := -1, M := M } := by
  have hV := Kd.V_mono (Kd.V_far (p := ⟨g, 4, none⟩) (Kd.R_V (base' := 0) hr) (fun _ hk => hk.1) (.slice A3 l.length l.length)) (ok' := fun k => k ≠ g ∧ some k ≠ none ∧ M k) (fun k hk => ⟨hk.1, by simp, hk.2⟩)
  exact ⟨A3, c3, A3, l.length, none, 0, blk_put h 4 _ rfl, hV, Kd.V_mk (Nat.le_refl _) (Kd.V_F hV), Kd.R_nil _ _ _ _ _, rfl, fun k hk => hM k (by simpa using hk)⟩
set_option maxHeartbeats 8000000 in
set_option maxRecDepth 100000 in
theorem dk_From_whole (w : World) (p room : Int) (s : ByteArray) (N : Nat) (M : Nat → Prop) (hM : ∀ k, w.heap.size ≤ k → M k) (hp : 0 < p) (hp2 : p ≤ 1024) (hsz : disk_Size.f p = some true) (r1 : 1 ≤ room) (r2 : room ≤ 4096) (hl : (s.size : Int) ≤ room * p) (hr : (s.size : Int) % p = 0) (hN : ((s).size : Int) = (N : Int) * p) (hN2 : N ≤ 4097) :
    Calls Try.prog 9 #[.int .i64 p, .int .i64 room, .string s] w fun e w' => ∃ g, w.heap.size ≤ g ∧ e = .returned (.tuple #[.pointer (some ⟨g, 0, none⟩), .int .i64 0]) ∧ DkAt w' g none { p := p, room := room, reads := 0, kept := pages p (s) N, now := pages p (s) N, pend := [], left := -1, M := M } ∧ Below w.heap.size w w' := by
  have HB := Aside0.mk (Below.refl w.heap.size w)
  have c1 : decide (room < 1) = false := decide_eq_false (by omega)
  have c2 : decide (4096 < room) = false := decide_eq_false (by omega)
  have hm0 : 0 ≤ room * p := Int.mul_nonneg (by omega) (by omega)
  have hm1 : room * p ≤ 4096 * 1024 := Int.mul_le_mul r2 hp2 (by omega) (by omega)
  have hm : wrap64 (room * p) = room * p := w64 (by omega) (by omega)
  have c3 : decide (room * p < (s.size : Int)) = false := decide_eq_false (by omega)
  have c4 : (p == 0) = false := beq_eq_false_iff_ne.mpr (by omega)
  have c4' : (p = 0) = False := eq_false (by omega)
  have HN := Aside0.mk hN
  have HL := Aside0.mk (show ((s).size : Int) ≤ 8000000 by omega)
  have HM0 := Aside0.mk hm0
  have HM1 := Aside0.mk hm1
  have HP := Aside0.mk (show 0 < p ∧ p ≤ 1024 from ⟨hp, hp2⟩)
  have HR := Aside0.mk (show 1 ≤ room ∧ room ≤ 4096 from ⟨r1, r2⟩)
  have c5 : decide (0 < (s.size : Int) % p) = false := decide_eq_false (by omega)
  clear hN hl hm0 hm1 hp hp2 r1 r2 hr
  go_enter Try.func9, Try.ntmps9
  go_wp2_with (first | (go_at_call 11; refine (disk_Size.calls p true _ hsz).mono ?_; rintro e w1 ⟨rfl, b1⟩; have n1_ := Aside0.mk (below_step (by repeat (first | exact HB.out | apply pw_below_drewN | apply below_drew1)) b1); clear HB b1; have HB := n1_; clear n1_; (try rw [hm])))
  obtain ⟨g, hg⟩ : ∃ g, g = w1.heap.size := ⟨_, rfl⟩
  obtain ⟨w2, hw2⟩ : ∃ w2, w2 = w1.alloc (.cells #[.int .i64 p, .int .i64 room, .int .i64 0, .slice none 0 0, .slice none 0 0, .slice none 0 0, .int .i64 (-1)] 67) := ⟨_, rfl⟩
  have HX := Aside0.mk (show w2.heap[g]? = some (.cells #[.int .i64 p, .int .i64 room, .int .i64 0, .slice none 0 0, .slice none 0 0, .slice none 0 0, .int .i64 (-1)] 67 (0, 0)) from by rw [hw2, hg]; exact blk_new w1 _)
  have HG := Aside0.mk (show w.heap.size ≤ g from by rw [hg]; exact below_size HB.out)
  have HB2 : Below w.heap.size w w2 := by rw [hw2]; exact below_alloc HB.out _
  rw [← hw2, ← hg]
  clear HB hg hw2
  have HB := Aside0.mk HB2
  clear HB2
  have HF := Aside0.mk (show FromAt w.heap.size _ g M p room (pages p s 0) from ⟨none, 0, HX.out, Kd.R_nil _ _ _ _ _⟩)
  clear HX
  go_loopg [10] (N + 1) (fun kq v10 w' => ∃ j : Nat, v10 = .int .i64 ((j : Int) * p) ∧ Aside0 (j + kq = N + 1 ∧ j ≤ N) ∧ Aside0 (FromAt w.heap.size w' g M p room (pages p s j)) ∧ Aside0 (Below w.heap.size w w'))
  case atStart => exact ⟨0, by simp, ⟨by omega, by omega⟩, ⟨by repeat (first | exact HF.out | apply FromAt.drewN | apply FromAt.drew)⟩, ⟨by repeat (first | exact HB.out | apply pw_below_drewN | apply below_drew1)⟩⟩
  case round =>
    clear HF HB
    obtain ⟨j, rfl, HA, HF, HB⟩ := hrel
    have hp := HP.out.1
    have hp2 := HP.out.2
    have hN := HN.out
    have hl := HL.out
    have hm1 := HM1.out
    have hpt : ((p.toNat : Nat) : Int) = p := Int.toNat_of_nonneg (by omega)
    by_cases cj : j < N
    · have hj1 : ((j : Int) + 1) * p ≤ (s).size := by rw [hN]; exact Int.mul_le_mul_of_nonneg_right (by omega) (by omega)
      have hj2 : ((j : Int) + 1) * p = (j : Int) * p + p := by rw [Int.add_mul, Int.one_mul]
      have HJ := Aside0.mk hj1
      have HCJ := Aside0.mk cj
      have hj0 : 0 ≤ (j : Int) * p := Int.mul_nonneg (by omega) (by omega)
      have hw : wrap64 ((j : Int) * p + p) = (j : Int) * p + p := w64 (by omega) (by omega)
      have cb : decide ((j : Int) * p < ((s).size : Int)) = true := decide_eq_true (by omega)
      have q0 := eq_true hj0
      have q1 : ((j : Int) * p ≤ (j : Int) * p + p) = True := eq_true (by omega)
      have q2 : ((j : Int) * p + p ≤ ((s).size : Int)) = True := eq_true (by omega)
      have hx : (s).extract ((j : Int) * p).toNat ((j : Int) * p + p).toNat = pageAt p (s) j := by
        have e1 : ((j : Int) * p).toNat = j * p.toNat := by apply Int.ofNat.inj; show (((j : Int) * p).toNat : Int) = ((j * p.toNat : Nat) : Int); rw [Int.toNat_of_nonneg hj0, Int.natCast_mul, hpt]
        have e2 : ((j : Int) * p + p).toNat = j * p.toNat + p.toNat := by apply Int.ofNat.inj; show (((j : Int) * p + p).toNat : Int) = ((j * p.toNat + p.toNat : Nat) : Int); rw [Int.toNat_of_nonneg (by omega), Int.natCast_add, Int.natCast_mul, hpt]
        rw [e1, e2]; rfl
      obtain ⟨A3, c3, h0, h1⟩ := HF.out
      have z3 : wr.cell? ⟨g, 3, none⟩ = some (.slice A3 (pages p s j).length c3) := (blk_cell h0 3).trans rfl
      have H0 := Aside0.mk h0
      have H1 := Aside0.mk h1
      clear h0 h1 HF hp hp2 hN hl hm1 hj1 hj0
      go_wp2
      refine start_ (n := 16) (S := fun w' => w'.cell? ⟨g, 3, none⟩ = some (.slice A3 (pages p s j).length c3)) (ds := [15]) #[false, false, false, false, false, false, false, false, false, false, false, false, false, false, false, false] (by kernel_rfl) rfl rfl z3 (fun hHeld => ?_)
      refine pure_ (i := 0) (N := some 51) (v := ?_) (a' := ?_) #[true, false, false, false, false, false, false, false, false, false, false, false, false, false, false, false] rfl rfl (by kernel_rfl) (fun _ _ _ h => h) (Or.inl ⟨by rfl, ?_⟩) ?_ ?_
      rotate_left
      · intro w'
        go_simp
        with_reducible rfl
      rotate_left
      · simp only [Act.put, List.setIfInBounds_toArray, List.set_cons_zero, List.set_cons_succ, i64_w, i32_w]
        rfl
      refine pure_ (i := 1) (N := some 52) (v := ?_) (a' := ?_) #[true, true, false, false, false, false, false, false, false, false, false, false, false, false, false, false] rfl rfl (by kernel_rfl) (fun _ _ _ h => h) (Or.inl ⟨by rfl, ?_⟩) ?_ ?_
      rotate_left
      · intro w'
        go_simp
        with_reducible rfl
      rotate_left
      · simp only [Act.put, List.setIfInBounds_toArray, List.set_cons_zero, List.set_cons_succ, i64_w, i32_w]
        rfl
      refine pure_ (i := 2) (N := some 53) (v := ?_) (a' := ?_) #[true, true, true, false, false, false, false, false, false, false, false, false, false, false, false, false] rfl rfl (by kernel_rfl) (fun _ _ _ h => h) (Or.inl ⟨by rfl, ?_⟩) ?_ ?_
      rotate_left
      · intro w'
        go_simp
        with_reducible rfl
      rotate_left
      · simp only [Act.put, List.setIfInBounds_toArray, List.set_cons_zero, List.set_cons_succ, i64_w, i32_w]
        rfl
      refine pure_ (i := 3) (N := some 54) (v := ?_) (a' := ?_) #[true, true, true, true, false, false, false, false, false, false, false, false, false, false, false, false] rfl rfl (by kernel_rfl) (fun _ _ _ h => h) (Or.inl ⟨by rfl, ?_⟩) ?_ ?_
      rotate_left
      · intro w'
        go_simp
        with_reducible rfl
      rotate_left
      · simp only [Act.put, List.setIfInBounds_toArray, List.set_cons_zero, List.set_cons_succ, i64_w, i32_w]
        rfl
      refine take_ (i := 4) (N := some 55) (v := ?_) (a' := ?_) #[true, true, true, true, true, false, false, false, false, false, false, false, false, false, false, false] rfl rfl (by kernel_rfl) (fun _ _ _ h => h) (Or.inl ⟨by rfl, ?_⟩) hHeld ?_ ?_
      rotate_left
      · rintro w' s0
        go_simp
        with_reducible rfl
      rotate_left
      · simp only [Act.put, List.setIfInBounds_toArray, List.set_cons_zero, List.set_cons_succ, i64_w, i32_w]
        rfl
      refine pure_ (i := 5) (N := some 56) (v := ?_) (a' := ?_) #[true, true, true, true, true, true, false, false, false, false, false, false, false, false, false, false] rfl rfl (by kernel_rfl) (fun _ _ _ h => h) (Or.inl ⟨by rfl, ?_⟩) ?_ ?_
      rotate_left
      · intro w'
        go_simp
        with_reducible rfl
      rotate_left
      · simp only [Act.put, List.setIfInBounds_toArray, List.set_cons_zero, List.set_cons_succ, i64_w, i32_w]
        rfl
      refine pure_ (i := 6) (N := some 57) (v := ?_) (a' := ?_) #[true, true, true, true, true, true, true, false, false, false, false, false, false, false, false, false] rfl rfl (by kernel_rfl) (fun _ _ _ h => h) (Or.inl ⟨by rfl, ?_⟩) ?_ ?_
      rotate_left
      · intro w'
        go_simp
        with_reducible rfl
      rotate_left
      · simp only [Act.put, List.setIfInBounds_toArray, List.set_cons_zero, List.set_cons_succ, i64_w, i32_w]
        rfl
      refine pure_ (i := 7) (N := some 58) (v := ?_) (a' := ?_) #[true, true, true, true, true, true, true, true, false, false, false, false, false, false, false, false] rfl rfl (by kernel_rfl) (fun _ _ _ h => h) (Or.inl ⟨by rfl, ?_⟩) ?_ ?_
      rotate_left
      · intro w'
        go_simp
        with_reducible rfl
      rotate_left
      · simp only [Act.put, List.setIfInBounds_toArray, List.set_cons_zero, List.set_cons_succ, i64_w, i32_w]
        rfl
      refine pure_ (i := 8) (N := some 59) (v := ?_) (a' := ?_) #[true, true, true, true, true, true, true, true, true, false, false, false, false, false, false, false] rfl rfl (by kernel_rfl) (fun _ _ _ h => h) (Or.inl ⟨by rfl, ?_⟩) ?_ ?_
      rotate_left
      · intro w'
        go_simp
        with_reducible rfl
      rotate_left
      · simp only [Act.put, List.setIfInBounds_toArray, List.set_cons_zero, List.set_cons_succ, i64_w, i32_w]
        rfl
      refine pure_ (i := 9) (N := some 60) (v := ?_) (a' := ?_) #[true, true, true, true, true, true, true, true, true, true, false, false, false, false, false, false] rfl rfl (by kernel_rfl) (fun _ _ _ h => h) (Or.inl ⟨by rfl, ?_⟩) ?_ ?_
      rotate_left
      · intro w'
        go_simp
        with_reducible rfl
      rotate_left
      · simp only [Act.put, List.setIfInBounds_toArray, List.set_cons_zero, List.set_cons_succ, i64_w, i32_w, hw]
        rfl
      refine pure_ (i := 10) (N := some 61) (v := ?_) (a' := ?_) #[true, true, true, true, true, true, true, true, true, true, true, false, false, false, false, false] rfl rfl (by kernel_rfl) (fun _ _ _ h => h) (Or.inl ⟨by rfl, ?_⟩) ?_ ?_
      rotate_left
      · intro w'
        go_simp
        with_reducible rfl
      rotate_left
      · simp only [Act.put, List.setIfInBounds_toArray, List.set_cons_zero, List.set_cons_succ, i64_w, i32_w, hx]
        rfl
      refine one_ (i := 11) (N := some 62) #[true, true, true, true, true, true, true, true, true, true, true, true, false, false, false, false] rfl rfl (by kernel_rfl) (by decide) (fun K hK => ?_)
      refine value_ (w1 := ?_) (v := ?_) (by rfl) rfl ?_ ?_
      rotate_left 2
      · go_simp
        constructor
        · rfl
        · rfl
      refine hK.out _ _ ((World.cell?_alloc_lt _ _ _ (World.block_lt_of_cell? _ _ z3)).trans z3) (fun hHeld => ?_)
      clear hK K
      refine norm_ (a' := ?_) ?_ ?_
      rotate_left
      · show Act.put _ (some 62) _ = _
        simp only [Act.put, List.setIfInBounds_toArray, List.set_cons_zero, List.set_cons_succ, i64_w, i32_w]
        rfl
      refine one_ (i := 12) (N := some 63) #[true, true, true, true, true, true, true, true, true, true, true, true, true, false, false, false] rfl rfl (by kernel_rfl) (by decide) (fun K hK => ?_)
      refine Kd.R_append_step Kd.string (w0 := w) (W := wr.drew) w.heap.size (by rfl) (.tmp 55) (.tmp 62) 39 9 (.string ⟨#[]⟩) 16 rfl Try.underlying39 info9 rfl (by decide) (by omega) (.slice A3 (pages p s j).length c3) (pages p s j) (pageAt p s j) [.string (pageAt p s j)] (fun k => k ≠ g ∧ M k) (fun _ => False) rfl rfl ?aP (fun _ hk => hk.elim) ?aF ?aO ?aB ?aS ?aL ?_
      case aP => exact rfl
      case aB => exact below_drew1 HB.out
      case aF => exact fun k hk => ⟨by have := blk_lt H0.out; simp at hk; omega, hM k (by have := HB.out.size; simp at hk; omega)⟩
      case aO => exact Kd.R_drew H1.out
      case aS => have := HB.out.size; simpa using this
      case aL => rw [pages_len]; have := hN2; omega
      intro v11 w11 ho11 hb11 hg11 hat11
      rw [← pages_succ] at ho11
      obtain ⟨A11, c11, e11⟩ := Kd.R_slice ho11
      subst e11
      have hne : some g ≠ (Value.slice A3 (pages p s j).length c3).ownBlock := fun e => (H1.out.1 g e.symm).1 rfl
      have H0d : wr.drew.heap[g]? = _ := H0.out
      have z11 : w11.cell? ⟨g, 3, none⟩ = some (.slice A3 (pages p s j).length c3) := (blk_cell (blk_grown H0d hg11 hne) 3).trans rfl
      have y11 := blk_frozen (blk_grown H0d hg11 hne) 3
      refine hK.out _ _ z11 (fun hHeld => ?_)
      clear hK K
      refine norm_ (a' := ?_) ?_ ?_
      rotate_left
      · show Act.put _ (some 63) _ = _
        simp only [Act.put, List.setIfInBounds_toArray, List.set_cons_zero, List.set_cons_succ, i64_w, i32_w]
        rfl
      refine pure_ (i := 13) (N := some 64) (v := ?_) (a' := ?_) #[true, true, true, true, true, true, true, true, true, true, true, true, true, true, false, false] rfl rfl (by kernel_rfl) (fun _ _ _ h => h) (Or.inl ⟨by rfl, ?_⟩) ?_ ?_
      rotate_left
      · intro w'
        go_simp
        with_reducible rfl
      rotate_left
      · simp only [Act.put, List.setIfInBounds_toArray, List.set_cons_zero, List.set_cons_succ, i64_w, i32_w]
        rfl
      refine pure_ (i := 14) (N := some 65) (v := ?_) (a' := ?_) #[true, true, true, true, true, true, true, true, true, true, true, true, true, true, true, false] rfl rfl (by kernel_rfl) (fun _ _ _ h => h) (Or.inl ⟨by rfl, ?_⟩) ?_ ?_
      rotate_left
      · intro w'
        go_simp
        with_reducible rfl
      rotate_left
      · simp only [Act.put, List.setIfInBounds_toArray, List.set_cons_zero, List.set_cons_succ, i64_w, i32_w]
        rfl
      refine last_ (i := 15) (N := none) #[true, true, true, true, true, true, true, true, true, true, true, true, true, true, true, true] rfl rfl (by kernel_rfl) (by decide) (fun K hK => ?_)
      refine skip_ (w1 := w11.setCell ⟨g, 3, none⟩ (.slice A11 (pages p s (j + 1)).length c11)) (by rfl) rfl ?hrun ?_
      case hrun => first | (go_simp; done) | (go_simp; rfl)
      refine hK.out _ _ ?_
      clear hK K
      refine done_ (by kernel_rfl) ?_
      have HF := Aside0.mk (FromAt.set H0d (Kd.R_drew H1.out) hg11 ho11)
      obtain ⟨w12, w12e⟩ : ∃ w12, w12 = w11.setCell ⟨g, 3, none⟩ (.slice A11 (pages p s (j + 1)).length c11) := ⟨_, rfl⟩
      have HB12 : Below w.heap.size w w12 := by rw [w12e]; exact below_set hb11 HG.out
      rw [← w12e] at HF ⊢
      clear w12e HB hg11 ho11 hb11 hat11 z11 y11 H0d H0 H1 hne z3
      have HB := Aside0.mk HB12
      clear HB12 hx
      go_wp2
      go_roundg (N - j)
      case measure => have := HA.out; omega
      case rel => exact ⟨j + 1, by rw [hw, ← hj2]; rfl, ⟨by have := HA.out; have := HCJ.out; omega, by have := HCJ.out; omega⟩, ⟨by repeat (first | exact HF.out | apply FromAt.drewN | apply FromAt.drew)⟩, ⟨by repeat (first | exact HB.out | apply pw_below_drewN | apply below_drew1)⟩⟩
    · have ej : j = N := by have := HA.out; omega
      subst ej
      have cb : decide ((j : Int) * p < ((s).size : Int)) = false := decide_eq_false (by omega)
      obtain ⟨A3, c3, h0, h1⟩ := HF.out
      have z3 : wr.cell? ⟨g, 3, none⟩ = some (.slice A3 (pages p s j).length c3) := (blk_cell h0 3).trans rfl
      have y4 := blk_frozen h0 4
      have z4 : wr.cell? ⟨g, 4, none⟩ = some (.slice none 0 0) := (blk_cell h0 4).trans rfl
      have H0 := Aside0.mk h0
      have H1 := Aside0.mk h1
      have lc := (Kd.R_reads' h1).2.1
      clear h0 h1 HF hp hp2 hN hl hm1
      go_wp2
      refine start_ (n := 19) (S := fun w' => w'.cell? ⟨g, 3, none⟩ = some (.slice A3 (pages p s j).length c3)) (ds := [18]) #[false, false, false, false, false, false, false, false, false, false, false, false, false, false, false, false, false, false, false] (by kernel_rfl) rfl rfl z3 (fun hHeld => ?_)
      refine pure_ (i := 0) (N := some 66) (v := ?_) (a' := ?_) #[true, false, false, false, false, false, false, false, false, false, false, false, false, false, false, false, false, false, false] rfl rfl (by kernel_rfl) (fun _ _ _ h => h) (Or.inl ⟨by rfl, ?_⟩) ?_ ?_
      rotate_left
      · intro w'
        go_simp
        with_reducible rfl
      rotate_left
      · simp only [Act.put, List.setIfInBounds_toArray, List.set_cons_zero, List.set_cons_succ, i64_w, i32_w]
        rfl
      refine pure_ (i := 1) (N := some 67) (v := ?_) (a' := ?_) #[true, true, false, false, false, false, false, false, false, false, false, false, false, false, false, false, false, false, false] rfl rfl (by kernel_rfl) (fun _ _ _ h => h) (Or.inl ⟨by rfl, ?_⟩) ?_ ?_
      rotate_left
      · intro w'
        go_simp
        with_reducible rfl
      rotate_left
      · simp only [Act.put, List.setIfInBounds_toArray, List.set_cons_zero, List.set_cons_succ, i64_w, i32_w]
        rfl
      refine pure_ (i := 2) (N := some 68) (v := ?_) (a' := ?_) #[true, true, true, false, false, false, false, false, false, false, false, false, false, false, false, false, false, false, false] rfl rfl (by kernel_rfl) (fun _ _ _ h => h) (Or.inl ⟨by rfl, ?_⟩) ?_ ?_
      rotate_left
      · intro w'
        go_simp
        with_reducible rfl
      rotate_left
      · simp only [Act.put, List.setIfInBounds_toArray, List.set_cons_zero, List.set_cons_succ, i64_w, i32_w]
        rfl
      refine pure_ (i := 3) (N := some 69) (v := ?_) (a' := ?_) #[true, true, true, true, false, false, false, false, false, false, false, false, false, false, false, false, false, false, false] rfl rfl (by kernel_rfl) (fun _ _ _ h => h) (Or.inl ⟨by rfl, ?_⟩) ?_ ?_
      rotate_left
      · intro w'
        go_simp
        with_reducible rfl
      rotate_left
      · simp only [Act.put, List.setIfInBounds_toArray, List.set_cons_zero, List.set_cons_succ, i64_w, i32_w]
        rfl
      refine take_ (i := 4) (N := some 70) (v := ?_) (a' := ?_) #[true, true, true, true, true, false, false, false, false, false, false, false, false, false, false, false, false, false, false] rfl rfl (by kernel_rfl) (fun _ _ _ h => h) (Or.inl ⟨by rfl, ?_⟩) hHeld ?_ ?_
      rotate_left
      · rintro w' s0
        go_simp
        with_reducible rfl
      rotate_left
      · simp only [Act.put, List.setIfInBounds_toArray, List.set_cons_zero, List.set_cons_succ, i64_w, i32_w]
        rfl
      refine pure_ (i := 5) (N := some 71) (v := ?_) (a' := ?_) #[true, true, true, true, true, true, false, false, false, false, false, false, false, false, false, false, false, false, false] rfl rfl (by kernel_rfl) (fun _ _ _ h => h) (Or.inl ⟨by rfl, ?_⟩) ?_ ?_
      rotate_left
      · intro w'
        go_simp
        with_reducible rfl
      rotate_left
      · simp only [Act.put, List.setIfInBounds_toArray, List.set_cons_zero, List.set_cons_succ, i64_w, i32_w]
        rfl
      refine pure_ (i := 6) (N := some 72) (v := ?_) (a' := ?_) #[true, true, true, true, true, true, true, false, false, false, false, false, false, false, false, false, false, false, false] rfl rfl (by kernel_rfl) (fun _ _ _ h => h) (Or.inl ⟨by rfl, ?_⟩) ?_ ?_
      rotate_left
      · intro w'
        go_simp
        with_reducible rfl
      rotate_left
      · simp only [Act.put, List.setIfInBounds_toArray, List.set_cons_zero, List.set_cons_succ, i64_w, i32_w]
        rfl
      refine pure_ (i := 7) (N := some 73) (v := ?_) (a' := ?_) #[true, true, true, true, true, true, true, true, false, false, false, false, false, false, false, false, false, false, false] rfl rfl (by kernel_rfl) (fun _ _ _ h => h) (Or.inl ⟨by rfl, ?_⟩) ?_ ?_
      rotate_left
      · intro w'
        go_simp
        with_reducible rfl
      rotate_left
      · simp only [Act.put, List.setIfInBounds_toArray, List.set_cons_zero, List.set_cons_succ, i64_w, i32_w]
        rfl
      refine take_ (i := 8) (N := some 74) (v := ?_) (a' := ?_) #[true, true, true, true, true, true, true, true, true, false, false, false, false, false, false, false, false, false, false] rfl rfl (by kernel_rfl) (fun _ _ _ h => h) (Or.inl ⟨by rfl, ?_⟩) hHeld ?_ ?_
      rotate_left
      · rintro w' s0
        go_simp
        with_reducible rfl
      rotate_left
      · simp only [Act.put, List.setIfInBounds_toArray, List.set_cons_zero, List.set_cons_succ, i64_w, i32_w]
        rfl
      refine pure_ (i := 9) (N := some 75) (v := ?_) (a' := ?_) #[true, true, true, true, true, true, true, true, true, true, false, false, false, false, false, false, false, false, false] rfl rfl (by kernel_rfl) (fun _ _ _ h => h) (Or.inl ⟨by rfl, ?_⟩) ?_ ?_
      rotate_left
      · intro w'
        go_simp
        with_reducible rfl
      rotate_left
      · simp only [Act.put, List.setIfInBounds_toArray, List.set_cons_zero, List.set_cons_succ, i64_w, i32_w]
        rfl
      refine pure_ (i := 10) (N := some 76) (v := ?_) (a' := ?_) #[true, true, true, true, true, true, true, true, true, true, true, false, false, false, false, false, false, false, false] rfl rfl (by kernel_rfl) (fun _ _ _ h => h) (Or.inl ⟨by rfl, ?_⟩) ?_ ?_
      rotate_left
      · intro w'
        go_simp
        with_reducible rfl
      rotate_left
      · simp only [Act.put, List.setIfInBounds_toArray, List.set_cons_zero, List.set_cons_succ, i64_w, i32_w]
        rfl
      refine pure_ (i := 11) (N := some 77) (v := ?_) (a' := ?_) #[true, true, true, true, true, true, true, true, true, true, true, true, false, false, false, false, false, false, false] rfl rfl (by kernel_rfl) (fun _ _ _ h => h) (Or.inl ⟨by rfl, ?_⟩) ?_ ?_
      rotate_left
      · intro w'
        go_simp
        with_reducible rfl
      rotate_left
      · simp only [Act.put, List.setIfInBounds_toArray, List.set_cons_zero, List.set_cons_succ, i64_w, i32_w]
        rfl
      refine pure_ (i := 12) (N := some 78) (v := ?_) (a' := ?_) #[true, true, true, true, true, true, true, true, true, true, true, true, true, false, false, false, false, false, false] rfl rfl (by kernel_rfl) (fun _ _ _ h => h) (Or.inl ⟨by rfl, ?_⟩) ?_ ?_
      rotate_left
      · intro w'
        go_simp
        with_reducible rfl
      rotate_left
      · simp only [Act.put, List.setIfInBounds_toArray, List.set_cons_zero, List.set_cons_succ, i64_w, i32_w]
        rfl
      refine take_ (i := 13) (N := some 79) (v := ?_) (a' := ?_) #[true, true, true, true, true, true, true, true, true, true, true, true, true, true, false, false, false, false, false] rfl rfl (by kernel_rfl) (fun _ _ _ h => h) (Or.inl ⟨by rfl, ?_⟩) hHeld ?_ ?_
      rotate_left
      · rintro w' s0
        go_simp
        with_reducible rfl
      rotate_left
      · simp only [Act.put, List.setIfInBounds_toArray, List.set_cons_zero, List.set_cons_succ, i64_w, i32_w]
        rfl
      refine pure_ (i := 14) (N := some 80) (v := ?_) (a' := ?_) #[true, true, true, true, true, true, true, true, true, true, true, true, true, true, true, false, false, false, false] rfl rfl (by kernel_rfl) (fun _ _ _ h => h) (Or.inl ⟨by rfl, ?_⟩) ?_ ?_
      rotate_left
      · intro w'
        go_simp
        with_reducible rfl
      rotate_left
      · simp only [Act.put, List.setIfInBounds_toArray, List.set_cons_zero, List.set_cons_succ, i64_w, i32_w]
        rfl
      refine pure_ (i := 15) (N := some 81) (v := ?_) (a' := ?_) #[true, true, true, true, true, true, true, true, true, true, true, true, true, true, true, true, false, false, false] rfl rfl (by kernel_rfl) (fun _ _ _ h => h) (Or.inl ⟨by rfl, ?_⟩) ?_ ?_
      rotate_left
      · intro w'
        go_simp
        with_reducible rfl
      rotate_left
      · simp only [Act.put, List.setIfInBounds_toArray, List.set_cons_zero, List.set_cons_succ, i64_w, i32_w]
        rfl
      refine pure_ (i := 16) (N := some 82) (v := ?_) (a' := ?_) #[true, true, true, true, true, true, true, true, true, true, true, true, true, true, true, true, true, false, false] rfl rfl (by kernel_rfl) (fun _ _ _ h => h) (Or.inl ⟨by rfl, ?_⟩) ?_ ?_
      rotate_left
      · intro w'
        go_simp
        with_reducible rfl
      rotate_left
      · simp only [Act.put, List.setIfInBounds_toArray, List.set_cons_zero, List.set_cons_succ, i64_w, i32_w]
        rfl
      refine pure_ (i := 17) (N := some 83) (v := ?_) (a' := ?_) #[true, true, true, true, true, true, true, true, true, true, true, true, true, true, true, true, true, true, false] rfl rfl (by kernel_rfl) (fun _ _ _ h => h) (Or.inl ⟨by rfl, ?_⟩) ?_ ?_
      rotate_left
      · intro w'
        go_simp
        with_reducible rfl
      rotate_left
      · simp only [Act.put, List.setIfInBounds_toArray, List.set_cons_zero, List.set_cons_succ, i64_w, i32_w]
        rfl
      refine last_ (i := 18) (N := none) #[true, true, true, true, true, true, true, true, true, true, true, true, true, true, true, true, true, true, true] rfl rfl (by kernel_rfl) (by decide) (fun K hK => ?_)
      refine skip_ (w1 := wr.drew.setCell ⟨g, 4, none⟩ (.slice A3 (pages p s j).length (pages p s j).length)) (by rfl) rfl ?hrun ?_
      case hrun => first | (go_simp; done) | (go_simp; rfl)
      refine hK.out _ _ ?_
      clear hK K
      refine done_ (by kernel_rfl) ?_
      have HD := Aside0.mk (FromAt.done (M := M) (show wr.drew.heap[g]? = _ from H0.out) (Kd.R_drew H1.out) (fun k hk => hM k (by have := HB.out.size; simp at hk; omega)))
      obtain ⟨w12, w12e⟩ : ∃ w12, w12 = wr.drew.setCell ⟨g, 4, none⟩ (.slice A3 (pages p s j).length (pages p s j).length) := ⟨_, rfl⟩
      have HB12 : Below w.heap.size w w12 := by rw [w12e]; exact below_set (below_drew1 HB.out) HG.out
      rw [← w12e] at HD ⊢
      clear w12e HB H0 H1 z3 y4 z4
      have HB := Aside0.mk HB12
      clear HB12
      go_wp2
      go_ret2
      exact ⟨g, HG.out, by first | rfl | (simp; done), by repeat (first | exact HD.out | apply DkAt.drewN | apply DkAt.drew), by repeat (first | exact HB.out | apply pw_below_drewN | apply below_drew1)⟩
set_option maxHeartbeats 8000000 in
set_option maxRecDepth 100000 in
theorem dk_From_part (w : World) (p room : Int) (s : ByteArray) (N : Nat) (M : Nat → Prop) (hM : ∀ k, w.heap.size ≤ k → M k) (hp : 0 < p) (hp2 : p ≤ 1024) (hsz : disk_Size.f p = some true) (r1 : 1 ≤ room) (r2 : room ≤ 4096) (hl : (s.size : Int) ≤ room * p) (hr : 0 < (s.size : Int) % p) (z t : ByteArray) (hz : strings_Repeat.f (⟨#[0]⟩ : ByteArray) (p - (s.size : Int) % p) = some z) (ht : s ++ z = t) (ht2 : (t.size : Int) ≤ 8000000) (hN : ((t).size : Int) = (N : Int) * p) (hN2 : N ≤ 4097) :
    Calls Try.prog 9 #[.int .i64 p, .int .i64 room, .string s] w fun e w' => ∃ g, w.heap.size ≤ g ∧ e = .returned (.tuple #[.pointer (some ⟨g, 0, none⟩), .int .i64 0]) ∧ DkAt w' g none { p := p, room := room, reads := 0, kept := pages p (t) N, now := pages p (t) N, pend := [], left := -1, M := M } ∧ Below w.heap.size w w' := by
  have HB := Aside0.mk (Below.refl w.heap.size w)
  have c1 : decide (room < 1) = false := decide_eq_false (by omega)
  have c2 : decide (4096 < room) = false := decide_eq_false (by omega)
  have hm0 : 0 ≤ room * p := Int.mul_nonneg (by omega) (by omega)
  have hm1 : room * p ≤ 4096 * 1024 := Int.mul_le_mul r2 hp2 (by omega) (by omega)
  have hm : wrap64 (room * p) = room * p := w64 (by omega) (by omega)
  have c3 : decide (room * p < (s.size : Int)) = false := decide_eq_false (by omega)
  have c4 : (p == 0) = false := beq_eq_false_iff_ne.mpr (by omega)
  have c4' : (p = 0) = False := eq_false (by omega)
  have HN := Aside0.mk hN
  have HL := Aside0.mk (show ((t).size : Int) ≤ 8000000 by omega)
  have HM0 := Aside0.mk hm0
  have HM1 := Aside0.mk hm1
  have HP := Aside0.mk (show 0 < p ∧ p ≤ 1024 from ⟨hp, hp2⟩)
  have HR := Aside0.mk (show 1 ≤ room ∧ room ≤ 4096 from ⟨r1, r2⟩)
  have hr2 := Int.emod_lt_of_pos (s.size : Int) hp
  have c5 : decide (0 < (s.size : Int) % p) = true := decide_eq_true hr
  have c6 : wrap64 (p - (s.size : Int) % p) = p - (s.size : Int) % p := w64 (by omega) (by omega)
  have HZ := Aside0.mk hz
  have ht3 : t.size = s.size + z.size := by rw [← ht, ByteArray.size_append]
  have c7 : (9223372036854775807 < s.size + z.size) = False := eq_false (by omega)
  clear hN hl hm0 hm1 hp hp2 r1 r2 hr hr2 hz ht2 ht3
  go_enter Try.func9, Try.ntmps9
  go_wp2_with (first | (go_at_call 11; refine (disk_Size.calls p true _ hsz).mono ?_; rintro e w1 ⟨rfl, b1⟩; have n1_ := Aside0.mk (below_step (by repeat (first | exact HB.out | apply pw_below_drewN | apply below_drew1)) b1); clear HB b1; have HB := n1_; clear n1_; (try rw [hm])) | (go_at_call 30; (try rw [c6]); refine (strings_Repeat.calls (⟨#[0]⟩ : ByteArray) _ z _ HZ.out).mono ?_; rintro e w3 ⟨rfl, b3⟩; have n1_ := Aside0.mk (below_step (by repeat (first | exact HB.out | apply below_alloc | apply pw_below_drewN | apply below_drew1)) b3); have HX := Aside0.mk (blk_below (g := w1.heap.size) (by repeat (first | exact blk_new w1 (.cells #[.int .i64 p, .int .i64 room, .int .i64 0, .slice none 0 0, .slice none 0 0, .slice none 0 0, .int .i64 (-1)] 67) | refine blk_drewN ?_ _ | refine blk_drew ?_)) b3); have HG := Aside0.mk (show w.heap.size ≤ w1.heap.size from below_size HB.out); clear HB b3; have HB := n1_; clear n1_))
  generalize w1.heap.size = g at HX HG ⊢
  have HF := Aside0.mk (show FromAt w.heap.size _ g M p room (pages p t 0) from ⟨none, 0, HX.out, Kd.R_nil _ _ _ _ _⟩)
  clear HX
  go_loopg [10] (N + 1) (fun kq v10 w' => ∃ j : Nat, v10 = .int .i64 ((j : Int) * p) ∧ Aside0 (j + kq = N + 1 ∧ j ≤ N) ∧ Aside0 (FromAt w.heap.size w' g M p room (pages p t j)) ∧ Aside0 (Below w.heap.size w w'))
  case atStart => exact ⟨0, by simp, ⟨by omega, by omega⟩, ⟨by repeat (first | exact HF.out | apply FromAt.drewN | apply FromAt.drew)⟩, ⟨by repeat (first | exact HB.out | apply pw_below_drewN | apply below_drew1)⟩⟩
  case round =>
    clear HF HB
    obtain ⟨j, rfl, HA, HF, HB⟩ := hrel
    have hp := HP.out.1
    have hp2 := HP.out.2
    have hN := HN.out
    have hl := HL.out
    have hm1 := HM1.out
    have hpt : ((p.toNat : Nat) : Int) = p := Int.toNat_of_nonneg (by omega)
    by_cases cj : j < N
    · have hj1 : ((j : Int) + 1) * p ≤ (t).size := by rw [hN]; exact Int.mul_le_mul_of_nonneg_right (by omega) (by omega)
      have hj2 : ((j : Int) + 1) * p = (j : Int) * p + p := by rw [Int.add_mul, Int.one_mul]
      have HJ := Aside0.mk hj1
      have HCJ := Aside0.mk cj
      have hj0 : 0 ≤ (j : Int) * p := Int.mul_nonneg (by omega) (by omega)
      have hw : wrap64 ((j : Int) * p + p) = (j : Int) * p + p := w64 (by omega) (by omega)
      have cb : decide ((j : Int) * p < ((t).size : Int)) = true := decide_eq_true (by omega)
      have q0 := eq_true hj0
      have q1 : ((j : Int) * p ≤ (j : Int) * p + p) = True := eq_true (by omega)
      have q2 : ((j : Int) * p + p ≤ ((t).size : Int)) = True := eq_true (by omega)
      have hx : (t).extract ((j : Int) * p).toNat ((j : Int) * p + p).toNat = pageAt p (t) j := by
        have e1 : ((j : Int) * p).toNat = j * p.toNat := by apply Int.ofNat.inj; show (((j : Int) * p).toNat : Int) = ((j * p.toNat : Nat) : Int); rw [Int.toNat_of_nonneg hj0, Int.natCast_mul, hpt]
        have e2 : ((j : Int) * p + p).toNat = j * p.toNat + p.toNat := by apply Int.ofNat.inj; show (((j : Int) * p + p).toNat : Int) = ((j * p.toNat + p.toNat : Nat) : Int); rw [Int.toNat_of_nonneg (by omega), Int.natCast_add, Int.natCast_mul, hpt]
        rw [e1, e2]; rfl
      obtain ⟨A3, c3, h0, h1⟩ := HF.out
      have z3 : wr.cell? ⟨g, 3, none⟩ = some (.slice A3 (pages p t j).length c3) := (blk_cell h0 3).trans rfl
      have H0 := Aside0.mk h0
      have H1 := Aside0.mk h1
      clear h0 h1 HF hp hp2 hN hl hm1 hj1 hj0
      go_wp2
      refine start_ (n := 16) (S := fun w' => w'.cell? ⟨g, 3, none⟩ = some (.slice A3 (pages p t j).length c3)) (ds := [15]) #[false, false, false, false, false, false, false, false, false, false, false, false, false, false, false, false] (by kernel_rfl) rfl rfl z3 (fun hHeld => ?_)
      refine pure_ (i := 0) (N := some 51) (v := ?_) (a' := ?_) #[true, false, false, false, false, false, false, false, false, false, false, false, false, false, false, false] rfl rfl (by kernel_rfl) (fun _ _ _ h => h) (Or.inl ⟨by rfl, ?_⟩) ?_ ?_
      rotate_left
      · intro w'
        go_simp
        with_reducible rfl
      rotate_left
      · simp only [Act.put, List.setIfInBounds_toArray, List.set_cons_zero, List.set_cons_succ, i64_w, i32_w]
        rfl
      refine pure_ (i := 1) (N := some 52) (v := ?_) (a' := ?_) #[true, true, false, false, false, false, false, false, false, false, false, false, false, false, false, false] rfl rfl (by kernel_rfl) (fun _ _ _ h => h) (Or.inl ⟨by rfl, ?_⟩) ?_ ?_
      rotate_left
      · intro w'
        go_simp
        with_reducible rfl
      rotate_left
      · simp only [Act.put, List.setIfInBounds_toArray, List.set_cons_zero, List.set_cons_succ, i64_w, i32_w]
        rfl
      refine pure_ (i := 2) (N := some 53) (v := ?_) (a' := ?_) #[true, true, true, false, false, false, false, false, false, false, false, false, false, false, false, false] rfl rfl (by kernel_rfl) (fun _ _ _ h => h) (Or.inl ⟨by rfl, ?_⟩) ?_ ?_
      rotate_left
      · intro w'
        go_simp
        with_reducible rfl
      rotate_left
      · simp only [Act.put, List.setIfInBounds_toArray, List.set_cons_zero, List.set_cons_succ, i64_w, i32_w]
        rfl
      refine pure_ (i := 3) (N := some 54) (v := ?_) (a' := ?_) #[true, true, true, true, false, false, false, false, false, false, false, false, false, false, false, false] rfl rfl (by kernel_rfl) (fun _ _ _ h => h) (Or.inl ⟨by rfl, ?_⟩) ?_ ?_
      rotate_left
      · intro w'
        go_simp
        with_reducible rfl
      rotate_left
      · simp only [Act.put, List.setIfInBounds_toArray, List.set_cons_zero, List.set_cons_succ, i64_w, i32_w]
        rfl
      refine take_ (i := 4) (N := some 55) (v := ?_) (a' := ?_) #[true, true, true, true, true, false, false, false, false, false, false, false, false, false, false, false] rfl rfl (by kernel_rfl) (fun _ _ _ h => h) (Or.inl ⟨by rfl, ?_⟩) hHeld ?_ ?_
      rotate_left
      · rintro w' s0
        go_simp
        with_reducible rfl
      rotate_left
      · simp only [Act.put, List.setIfInBounds_toArray, List.set_cons_zero, List.set_cons_succ, i64_w, i32_w]
        rfl
      refine pure_ (i := 5) (N := some 56) (v := ?_) (a' := ?_) #[true, true, true, true, true, true, false, false, false, false, false, false, false, false, false, false] rfl rfl (by kernel_rfl) (fun _ _ _ h => h) (Or.inl ⟨by rfl, ?_⟩) ?_ ?_
      rotate_left
      · intro w'
        go_simp
        with_reducible rfl
      rotate_left
      · simp only [Act.put, List.setIfInBounds_toArray, List.set_cons_zero, List.set_cons_succ, i64_w, i32_w]
        rfl
      refine pure_ (i := 6) (N := some 57) (v := ?_) (a' := ?_) #[true, true, true, true, true, true, true, false, false, false, false, false, false, false, false, false] rfl rfl (by kernel_rfl) (fun _ _ _ h => h) (Or.inl ⟨by rfl, ?_⟩) ?_ ?_
      rotate_left
      · intro w'
        go_simp
        with_reducible rfl
      rotate_left
      · simp only [Act.put, List.setIfInBounds_toArray, List.set_cons_zero, List.set_cons_succ, i64_w, i32_w]
        rfl
      refine pure_ (i := 7) (N := some 58) (v := ?_) (a' := ?_) #[true, true, true, true, true, true, true, true, false, false, false, false, false, false, false, false] rfl rfl (by kernel_rfl) (fun _ _ _ h => h) (Or.inl ⟨by rfl, ?_⟩) ?_ ?_
      rotate_left
      · intro w'
        go_simp
        with_reducible rfl
      rotate_left
      · simp only [Act.put, List.setIfInBounds_toArray, List.set_cons_zero, List.set_cons_succ, i64_w, i32_w]
        rfl
      refine pure_ (i := 8) (N := some 59) (v := ?_) (a' := ?_) #[true, true, true, true, true, true, true, true, true, false, false, false, false, false, false, false] rfl rfl (by kernel_rfl) (fun _ _ _ h => h) (Or.inl ⟨by rfl, ?_⟩) ?_ ?_
      rotate_left
      · intro w'
        go_simp
        with_reducible rfl
      rotate_left
      · simp only [Act.put, List.setIfInBounds_toArray, List.set_cons_zero, List.set_cons_succ, i64_w, i32_w]
        rfl
      refine pure_ (i := 9) (N := some 60) (v := ?_) (a' := ?_) #[true, true, true, true, true, true, true, true, true, true, false, false, false, false, false, false] rfl rfl (by kernel_rfl) (fun _ _ _ h => h) (Or.inl ⟨by rfl, ?_⟩) ?_ ?_
      rotate_left
      · intro w'
        go_simp
        with_reducible rfl
      rotate_left
      · simp only [Act.put, List.setIfInBounds_toArray, List.set_cons_zero, List.set_cons_succ, i64_w, i32_w, hw]
        rfl
      refine pure_ (i := 10) (N := some 61) (v := ?_) (a' := ?_) #[true, true, true, true, true, true, true, true, true, true, true, false, false, false, false, false] rfl rfl (by kernel_rfl) (fun _ _ _ h => h) (Or.inl ⟨by rfl, ?_⟩) ?_ ?_
      rotate_left
      · intro w'
        go_simp
        with_reducible rfl
      rotate_left
      · simp only [Act.put, List.setIfInBounds_toArray, List.set_cons_zero, List.set_cons_succ, i64_w, i32_w, hx]
        rfl
      refine one_ (i := 11) (N := some 62) #[true, true, true, true, true, true, true, true, true, true, true, true, false, false, false, false] rfl rfl (by kernel_rfl) (by decide) (fun K hK => ?_)
      refine value_ (w1 := ?_) (v := ?_) (by rfl) rfl ?_ ?_
      rotate_left 2
      · go_simp
        constructor
        · rfl
        · rfl
      refine hK.out _ _ ((World.cell?_alloc_lt _ _ _ (World.block_lt_of_cell? _ _ z3)).trans z3) (fun hHeld => ?_)
      clear hK K
      refine norm_ (a' := ?_) ?_ ?_
      rotate_left
      · show Act.put _ (some 62) _ = _
        simp only [Act.put, List.setIfInBounds_toArray, List.set_cons_zero, List.set_cons_succ, i64_w, i32_w]
        rfl
      refine one_ (i := 12) (N := some 63) #[true, true, true, true, true, true, true, true, true, true, true, true, true, false, false, false] rfl rfl (by kernel_rfl) (by decide) (fun K hK => ?_)
      refine Kd.R_append_step Kd.string (w0 := w) (W := wr.drew) w.heap.size (by rfl) (.tmp 55) (.tmp 62) 39 9 (.string ⟨#[]⟩) 16 rfl Try.underlying39 info9 rfl (by decide) (by omega) (.slice A3 (pages p t j).length c3) (pages p t j) (pageAt p t j) [.string (pageAt p t j)] (fun k => k ≠ g ∧ M k) (fun _ => False) rfl rfl ?aP (fun _ hk => hk.elim) ?aF ?aO ?aB ?aS ?aL ?_
      case aP => exact rfl
      case aB => exact below_drew1 HB.out
      case aF => exact fun k hk => ⟨by have := blk_lt H0.out; simp at hk; omega, hM k (by have := HB.out.size; simp at hk; omega)⟩
      case aO => exact Kd.R_drew H1.out
      case aS => have := HB.out.size; simpa using this
      case aL => rw [pages_len]; have := hN2; omega
      intro v11 w11 ho11 hb11 hg11 hat11
      rw [← pages_succ] at ho11
      obtain ⟨A11, c11, e11⟩ := Kd.R_slice ho11
      subst e11
      have hne : some g ≠ (Value.slice A3 (pages p t j).length c3).ownBlock := fun e => (H1.out.1 g e.symm).1 rfl
      have H0d : wr.drew.heap[g]? = _ := H0.out
      have z11 : w11.cell? ⟨g, 3, none⟩ = some (.slice A3 (pages p t j).length c3) := (blk_cell (blk_grown H0d hg11 hne) 3).trans rfl
      have y11 := blk_frozen (blk_grown H0d hg11 hne) 3
      refine hK.out _ _ z11 (fun hHeld => ?_)
      clear hK K
      refine norm_ (a' := ?_) ?_ ?_
      rotate_left
      · show Act.put _ (some 63) _ = _
        simp only [Act.put, List.setIfInBounds_toArray, List.set_cons_zero, List.set_cons_succ, i64_w, i32_w]
        rfl
      refine pure_ (i := 13) (N := some 64) (v := ?_) (a' := ?_) #[true, true, true, true, true, true, true, true, true, true, true, true, true, true, false, false] rfl rfl (by kernel_rfl) (fun _ _ _ h => h) (Or.inl ⟨by rfl, ?_⟩) ?_ ?_
      rotate_left
      · intro w'
        go_simp
        with_reducible rfl
      rotate_left
      · simp only [Act.put, List.setIfInBounds_toArray, List.set_cons_zero, List.set_cons_succ, i64_w, i32_w]
        rfl
      refine pure_ (i := 14) (N := some 65) (v := ?_) (a' := ?_) #[true, true, true, true, true, true, true, true, true, true, true, true, true, true, true, false] rfl rfl (by kernel_rfl) (fun _ _ _ h => h) (Or.inl ⟨by rfl, ?_⟩) ?_ ?_
      rotate_left
      · intro w'
        go_simp
        with_reducible rfl
      rotate_left
      · simp only [Act.put, List.setIfInBounds_toArray, List.set_cons_zero, List.set_cons_succ, i64_w, i32_w]
        rfl
      refine last_ (i := 15) (N := none) #[true, true, true, true, true, true, true, true, true, true, true, true, true, true, true, true] rfl rfl (by kernel_rfl) (by decide) (fun K hK => ?_)
      refine skip_ (w1 := w11.setCell ⟨g, 3, none⟩ (.slice A11 (pages p t (j + 1)).length c11)) (by rfl) rfl ?hrun ?_
      case hrun => first | (go_simp; done) | (go_simp; rfl)
      refine hK.out _ _ ?_
      clear hK K
      refine done_ (by kernel_rfl) ?_
      have HF := Aside0.mk (FromAt.set H0d (Kd.R_drew H1.out) hg11 ho11)
      obtain ⟨w12, w12e⟩ : ∃ w12, w12 = w11.setCell ⟨g, 3, none⟩ (.slice A11 (pages p t (j + 1)).length c11) := ⟨_, rfl⟩
      have HB12 : Below w.heap.size w w12 := by rw [w12e]; exact below_set hb11 HG.out
      rw [← w12e] at HF ⊢
      clear w12e HB hg11 ho11 hb11 hat11 z11 y11 H0d H0 H1 hne z3
      have HB := Aside0.mk HB12
      clear HB12 hx
      go_wp2
      go_roundg (N - j)
      case measure => have := HA.out; omega
      case rel => exact ⟨j + 1, by rw [hw, ← hj2]; rfl, ⟨by have := HA.out; have := HCJ.out; omega, by have := HCJ.out; omega⟩, ⟨by repeat (first | exact HF.out | apply FromAt.drewN | apply FromAt.drew)⟩, ⟨by repeat (first | exact HB.out | apply pw_below_drewN | apply below_drew1)⟩⟩
    · have ej : j = N := by have := HA.out; omega
      subst ej
      have cb : decide ((j : Int) * p < ((t).size : Int)) = false := decide_eq_false (by omega)
      obtain ⟨A3, c3, h0, h1⟩ := HF.out
      have z3 : wr.cell? ⟨g, 3, none⟩ = some (.slice A3 (pages p t j).length c3) := (blk_cell h0 3).trans rfl
      have y4 := blk_frozen h0 4
      have z4 : wr.cell? ⟨g, 4, none⟩ = some (.slice none 0 0) := (blk_cell h0 4).trans rfl
      have H0 := Aside0.mk h0
      have H1 := Aside0.mk h1
      have lc := (Kd.R_reads' h1).2.1
      clear h0 h1 HF hp hp2 hN hl hm1
      go_wp2
      refine start_ (n := 19) (S := fun w' => w'.cell? ⟨g, 3, none⟩ = some (.slice A3 (pages p t j).length c3)) (ds := [18]) #[false, false, false, false, false, false, false, false, false, false, false, false, false, false, false, false, false, false, false] (by kernel_rfl) rfl rfl z3 (fun hHeld => ?_)
      refine pure_ (i := 0) (N := some 66) (v := ?_) (a' := ?_) #[true, false, false, false, false, false, false, false, false, false, false, false, false, false, false, false, false, false, false] rfl rfl (by kernel_rfl) (fun _ _ _ h => h) (Or.inl ⟨by rfl, ?_⟩) ?_ ?_
      rotate_left
      · intro w'
        go_simp
        with_reducible rfl
      rotate_left
      · simp only [Act.put, List.setIfInBounds_toArray, List.set_cons_zero, List.set_cons_succ, i64_w, i32_w]
        rfl
      refine pure_ (i := 1) (N := some 67) (v := ?_) (a' := ?_) #[true, true, false, false, false, false, false, false, false, false, false, false, false, false, false, false, false, false, false] rfl rfl (by kernel_rfl) (fun _ _ _ h => h) (Or.inl ⟨by rfl, ?_⟩) ?_ ?_
      rotate_left
      · intro w'
        go_simp
        with_reducible rfl
      rotate_left
      · simp only [Act.put, List.setIfInBounds_toArray, List.set_cons_zero, List.set_cons_succ, i64_w, i32_w]
        rfl
      refine pure_ (i := 2) (N := some 68) (v := ?_) (a' := ?_) #[true, true, true, false, false, false, false, false, false, false, false, false, false, false, false, false, false, false, false] rfl rfl (by kernel_rfl) (fun _ _ _ h => h) (Or.inl ⟨by rfl, ?_⟩) ?_ ?_
      rotate_left
      · intro w'
        go_simp
        with_reducible rfl
      rotate_left
      · simp only [Act.put, List.setIfInBounds_toArray, List.set_cons_zero, List.set_cons_succ, i64_w, i32_w]
        rfl
      refine pure_ (i := 3) (N := some 69) (v := ?_) (a' := ?_) #[true, true, true, true, false, false, false, false, false, false, false, false, false, false, false, false, false, false, false] rfl rfl (by kernel_rfl) (fun _ _ _ h => h) (Or.inl ⟨by rfl, ?_⟩) ?_ ?_
      rotate_left
      · intro w'
        go_simp
        with_reducible rfl
      rotate_left
      · simp only [Act.put, List.setIfInBounds_toArray, List.set_cons_zero, List.set_cons_succ, i64_w, i32_w]
        rfl
      refine take_ (i := 4) (N := some 70) (v := ?_) (a' := ?_) #[true, true, true, true, true, false, false, false, false, false, false, false, false, false, false, false, false, false, false] rfl rfl (by kernel_rfl) (fun _ _ _ h => h) (Or.inl ⟨by rfl, ?_⟩) hHeld ?_ ?_
      rotate_left
      · rintro w' s0
        go_simp
        with_reducible rfl
      rotate_left
      · simp only [Act.put, List.setIfInBounds_toArray, List.set_cons_zero, List.set_cons_succ, i64_w, i32_w]
        rfl
      refine pure_ (i := 5) (N := some 71) (v := ?_) (a' := ?_) #[true, true, true, true, true, true, false, false, false, false, false, false, false, false, false, false, false, false, false] rfl rfl (by kernel_rfl) (fun _ _ _ h => h) (Or.inl ⟨by rfl, ?_⟩) ?_ ?_
      rotate_left
      · intro w'
        go_simp
        with_reducible rfl
      rotate_left
      · simp only [Act.put, List.setIfInBounds_toArray, List.set_cons_zero, List.set_cons_succ, i64_w, i32_w]
        rfl
      refine pure_ (i := 6) (N := some 72) (v := ?_) (a' := ?_) #[true, true, true, true, true, true, true, false, false, false, false, false, false, false, false, false, false, false, false] rfl rfl (by kernel_rfl) (fun _ _ _ h => h) (Or.inl ⟨by rfl, ?_⟩) ?_ ?_
      rotate_left
      · intro w'
        go_simp
        with_reducible rfl
      rotate_left
      · simp only [Act.put, List.setIfInBounds_toArray, List.set_cons_zero, List.set_cons_succ, i64_w, i32_w]
        rfl
      refine pure_ (i := 7) (N := some 73) (v := ?_) (a' := ?_) #[true, true, true, true, true, true, true, true, false, false, false, false, false, false, false, false, false, false, false] rfl rfl (by kernel_rfl) (fun _ _ _ h => h) (Or.inl ⟨by rfl, ?_⟩) ?_ ?_
      rotate_left
      · intro w'
        go_simp
        with_reducible rfl
      rotate_left
      · simp only [Act.put, List.setIfInBounds_toArray, List.set_cons_zero, List.set_cons_succ, i64_w, i32_w]
        rfl
      refine take_ (i := 8) (N := some 74) (v := ?_) (a' := ?_) #[true, true, true, true, true, true, true, true, true, false, false, false, false, false, false, false, false, false, false] rfl rfl (by kernel_rfl) (fun _ _ _ h => h) (Or.inl ⟨by rfl, ?_⟩) hHeld ?_ ?_
      rotate_left
      · rintro w' s0
        go_simp
        with_reducible rfl
      rotate_left
      · simp only [Act.put, List.setIfInBounds_toArray, List.set_cons_zero, List.set_cons_succ, i64_w, i32_w]
        rfl
      refine pure_ (i := 9) (N := some 75) (v := ?_) (a' := ?_) #[true, true, true, true, true, true, true, true, true, true, false, false, false, false, false, false, false, false, false] rfl rfl (by kernel_rfl) (fun _ _ _ h => h) (Or.inl ⟨by rfl, ?_⟩) ?_ ?_
      rotate_left
      · intro w'
        go_simp
        with_reducible rfl
      rotate_left
      · simp only [Act.put, List.setIfInBounds_toArray, List.set_cons_zero, List.set_cons_succ, i64_w, i32_w]
        rfl
      refine pure_ (i := 10) (N := some 76) (v := ?_) (a' := ?_) #[true, true, true, true, true, true, true, true, true, true, true, false, false, false, false, false, false, false, false] rfl rfl (by kernel_rfl) (fun _ _ _ h => h) (Or.inl ⟨by rfl, ?_⟩) ?_ ?_
      rotate_left
      · intro w'
        go_simp
        with_reducible rfl
      rotate_left
      · simp only [Act.put, List.setIfInBounds_toArray, List.set_cons_zero, List.set_cons_succ, i64_w, i32_w]
        rfl
      refine pure_ (i := 11) (N := some 77) (v := ?_) (a' := ?_) #[true, true, true, true, true, true, true, true, true, true, true, true, false, false, false, false, false, false, false] rfl rfl (by kernel_rfl) (fun _ _ _ h => h) (Or.inl ⟨by rfl, ?_⟩) ?_ ?_
      rotate_left
      · intro w'
        go_simp
        with_reducible rfl
      rotate_left
      · simp only [Act.put, List.setIfInBounds_toArray, List.set_cons_zero, List.set_cons_succ, i64_w, i32_w]
        rfl
      refine pure_ (i := 12) (N := some 78) (v := ?_) (a' := ?_) #[true, true, true, true, true, true, true, true, true, true, true, true, true, false, false, false, false, false, false] rfl rfl (by kernel_rfl) (fun _ _ _ h => h) (Or.inl ⟨by rfl, ?_⟩) ?_ ?_
      rotate_left
      · intro w'
        go_simp
        with_reducible rfl
      rotate_left
      · simp only [Act.put, List.setIfInBounds_toArray, List.set_cons_zero, List.set_cons_succ, i64_w, i32_w]
        rfl
      refine take_ (i := 13) (N := some 79) (v := ?_) (a' := ?_) #[true, true, true, true, true, true, true, true, true, true, true, true, true, true, false, false, false, false, false] rfl rfl (by kernel_rfl) (fun _ _ _ h => h) (Or.inl ⟨by rfl, ?_⟩) hHeld ?_ ?_
      rotate_left
      · rintro w' s0
        go_simp
        with_reducible rfl
      rotate_left
      · simp only [Act.put, List.setIfInBounds_toArray, List.set_cons_zero, List.set_cons_succ, i64_w, i32_w]
        rfl
      refine pure_ (i := 14) (N := some 80) (v := ?_) (a' := ?_) #[true, true, true, true, true, true, true, true, true, true, true, true, true, true, true, false, false, false, false] rfl rfl (by kernel_rfl) (fun _ _ _ h => h) (Or.inl ⟨by rfl, ?_⟩) ?_ ?_
      rotate_left
      · intro w'
        go_simp
        with_reducible rfl
      rotate_left
      · simp only [Act.put, List.setIfInBounds_toArray, List.set_cons_zero, List.set_cons_succ, i64_w, i32_w]
        rfl
      refine pure_ (i := 15) (N := some 81) (v := ?_) (a' := ?_) #[true, true, true, true, true, true, true, true, true, true, true, true, true, true, true, true, false, false, false] rfl rfl (by kernel_rfl) (fun _ _ _ h => h) (Or.inl ⟨by rfl, ?_⟩) ?_ ?_
      rotate_left
      · intro w'
        go_simp
        with_reducible rfl
      rotate_left
      · simp only [Act.put, List.setIfInBounds_toArray, List.set_cons_zero, List.set_cons_succ, i64_w, i32_w]
        rfl
      refine pure_ (i := 16) (N := some 82) (v := ?_) (a' := ?_) #[true, true, true, true, true, true, true, true, true, true, true, true, true, true, true, true, true, false, false] rfl rfl (by kernel_rfl) (fun _ _ _ h => h) (Or.inl ⟨by rfl, ?_⟩) ?_ ?_
      rotate_left
      · intro w'
        go_simp
        with_reducible rfl
      rotate_left
      · simp only [Act.put, List.setIfInBounds_toArray, List.set_cons_zero, List.set_cons_succ, i64_w, i32_w]
        rfl
      refine pure_ (i := 17) (N := some 83) (v := ?_) (a' := ?_) #[true, true, true, true, true, true, true, true, true, true, true, true, true, true, true, true, true, true, false] rfl rfl (by kernel_rfl) (fun _ _ _ h => h) (Or.inl ⟨by rfl, ?_⟩) ?_ ?_
      rotate_left
      · intro w'
        go_simp
        with_reducible rfl
      rotate_left
      · simp only [Act.put, List.setIfInBounds_toArray, List.set_cons_zero, List.set_cons_succ, i64_w, i32_w]
        rfl
      refine last_ (i := 18) (N := none) #[true, true, true, true, true, true, true, true, true, true, true, true, true, true, true, true, true, true, true] rfl rfl (by kernel_rfl) (by decide) (fun K hK => ?_)
      refine skip_ (w1 := wr.drew.setCell ⟨g, 4, none⟩ (.slice A3 (pages p t j).length (pages p t j).length)) (by rfl) rfl ?hrun ?_
      case hrun => first | (go_simp; done) | (go_simp; rfl)
      refine hK.out _ _ ?_
      clear hK K
      refine done_ (by kernel_rfl) ?_
      have HD := Aside0.mk (FromAt.done (M := M) (show wr.drew.heap[g]? = _ from H0.out) (Kd.R_drew H1.out) (fun k hk => hM k (by have := HB.out.size; simp at hk; omega)))
      obtain ⟨w12, w12e⟩ : ∃ w12, w12 = wr.drew.setCell ⟨g, 4, none⟩ (.slice A3 (pages p t j).length (pages p t j).length) := ⟨_, rfl⟩
      have HB12 : Below w.heap.size w w12 := by rw [w12e]; exact below_set (below_drew1 HB.out) HG.out
      rw [← w12e] at HD ⊢
      clear w12e HB H0 H1 z3 y4 z4
      have HB := Aside0.mk HB12
      clear HB12
      go_wp2
      go_ret2
      exact ⟨g, HG.out, by first | rfl | (simp; done), by repeat (first | exact HD.out | apply DkAt.drewN | apply DkAt.drew), by repeat (first | exact HB.out | apply pw_below_drewN | apply below_drew1)⟩
end Go.Proofs.Ytnmdpjbpbiempaa.P
