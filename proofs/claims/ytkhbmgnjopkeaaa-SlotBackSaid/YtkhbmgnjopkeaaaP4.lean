/- What is proved here: for functions of the Go text, a Lean function each, and that the call comes to just what it answers. Conditions: as each contract names them. Written by wip/tools/myprint.py, a driver of the print of the kit. -/
import Derived.Test.YtkhbmgnjopkeaaaP0
import Derived.Test.YtkhbmgnjopkeaaaP2
namespace Go.Proofs.Ytkhbmgnjopkeaaa.P
open Go.RowKit Go.Proofs.YtkhbmgnjopkeaaaW.PrintWords Go.Proofs.YtkhbmgnjopkeaaaW.PrintLast Go.Proofs.YtkhbmgnjopkeaaaW.PrintMore
attribute [local go_sem] max2_int min2_int max_two min_two max_three min_three max_four min_four Go.Proofs.YtkhbmgnjopkeaaaLaws.str_leq Go.Proofs.YtkhbmgnjopkeaaaLaws.str_gtr Go.Proofs.YtkhbmgnjopkeaaaLaws.str_geq Go.Proofs.YtkhbmgnjopkeaaaLaws.max2_str Go.Proofs.YtkhbmgnjopkeaaaLaws.min2_str   -- for this text's walks alone
set_option linter.unusedVariables false
set_option linter.unusedSimpArgs false

/-! ### slot_Unpack: function 11, by hand -/
def slot_at.f (a0 : ByteArray) (a1 : Int) : Option (Int) := if 0 ≤ (wrap64 ((a0.size : Int) - (wrap64 (2 * (wrap64 (a1 + 1)))))) then (if (wrap64 ((a0.size : Int) - (wrap64 (2 * (wrap64 (a1 + 1)))))) < (a0.size : Int) then (if 0 ≤ (wrap64 ((wrap64 ((a0.size : Int) - (wrap64 (2 * (wrap64 (a1 + 1)))))) + 1)) then (if (wrap64 ((wrap64 ((a0.size : Int) - (wrap64 (2 * (wrap64 (a1 + 1)))))) + 1)) < (a0.size : Int) then (some (wrap64 ((wrap64 (bt a0 (wrap64 ((a0.size : Int) - (wrap64 (2 * (wrap64 (a1 + 1)))))))) + (wrap64 ((wrap64 (bt a0 (wrap64 ((wrap64 ((a0.size : Int) - (wrap64 (2 * (wrap64 (a1 + 1)))))) + 1)))) * 256))))) else (none)) else (none)) else (none)) else (none)
set_option maxHeartbeats 4000000 in
theorem slot_at.calls (a0 : ByteArray) (a1 : Int) (B : Nat) (r : Int) (w : World) (hc : w.cell? ⟨B, 0, none⟩ = some (.string a0)) (h : slot_at.f a0 a1 = some r) :
    Calls Try.prog 21 #[.int .i64 a1, .pointer (some ⟨B, 0, none⟩)] w fun e w' => e = .returned (.int .i64 r) ∧ Drawn0 w w' := by
  unfold slot_at.f at h
  obtain ⟨ji3, hji3⟩ : ∃ j_ : Int, (wrap64 ((a0.size : Int) - (wrap64 (2 * (wrap64 (a1 + 1)))))) = j_ := ⟨_, rfl⟩
  rw [hji3] at h
  obtain ⟨ji7, hji7⟩ : ∃ j_ : Int, (wrap64 (ji3 + 1)) = j_ := ⟨_, rfl⟩
  rw [hji7] at h
  have hji3w : (IntKind.i64.wrap ((a0.size : Int) - (wrap64 (2 * (wrap64 (a1 + 1)))))) = ji3 := (i64_w _).trans hji3
  have hji7w : (IntKind.i64.wrap (ji3 + 1)) = ji7 := (i64_w _).trans hji7
  by_cases c4 : 0 ≤ ji3
  · rw [if_pos c4] at h
    by_cases c5 : ji3 < (a0.size : Int)
    · rw [if_pos c5] at h
      by_cases c8 : 0 ≤ ji7
      · rw [if_pos c8] at h
        by_cases c9 : ji7 < (a0.size : Int)
        · rw [if_pos c9] at h
          obtain rfl := Option.some.inj h
          clear h
          have hx6 := bt_at a0 ji3
          have hx10 := bt_at a0 ji7
          replace c4 := eq_true c4
          replace c5 := eq_true c5
          replace c8 := eq_true c8
          replace c9 := eq_true c9
          go_enter Try.func21, Try.ntmps21
          go_wp2
          repeat (go_quiet (fail); try go_wp2)
          go_ret
          exact ⟨by first | rfl | (simp; done) | (simp only [← hji3, ← hji7] <;> (first | rfl | simp)) | (simp [*]; done), by repeat (first | exact Drawn0.refl _ | apply Drawn0.step)⟩
        · rw [if_neg c9] at h
          cases h
      · rw [if_neg c8] at h
        cases h
    · rw [if_neg c5] at h
      cases h
  · rw [if_neg c4] at h
    cases h

def slot_Unpack.l0 : Nat → ByteArray → Int → Int → List ByteArray → Int → Option (List ByteArray × Int)
  | 0, _, _, _, _, _ => none
  | k + 1, x0, x1, x2, x8, x9 => if x9 < x2 then ((slot_at.f x0 x9).bind fun t141 => ((slot_at.f x0 (wrap64 (x9 + 1))).bind fun t142 => (if t141 > t142 then (some (([] : List ByteArray), 3)) else (if t142 > (x0.size : Int) then (some (([] : List ByteArray), 3)) else (if 0 ≤ t141 then (if x8.length < 8796093022208 then (slot_Unpack.l0 k x0 x1 x2 (x8 ++ [x0.extract t141.toNat t142.toNat]) (wrap64 (x9 + 1))) else (none)) else (none)))))) else (if 0 ≤ x1 then (if x1 ≤ (x0.size : Int) then ((slot_Pack.f k (x0.size : Int) (x0.extract 0 x1.toNat) x8).bind fun bt139 => (if bt139.2 = 0 then (if bt139.1.toList = x0.toList then (some (x8, 0)) else (some (([] : List ByteArray), 3))) else (some (([] : List ByteArray), 3)))) else (none)) else (none))
def slot_Unpack.f (k : Nat) (a0 : ByteArray) (a1 : Int) (a2 : Int) : Option (List ByteArray × Int) := if a1 < 0 then (some (([] : List ByteArray), 4)) else (if a2 < 0 then (some (([] : List ByteArray), 4)) else (if (a0.size : Int) > 65535 then (some (([] : List ByteArray), 4)) else (if a1 > (a0.size : Int) then (some (([] : List ByteArray), 3)) else (if a2 > (a0.size : Int) / 2 - 1 then (some (([] : List ByteArray), 3)) else (slot_Unpack.l0 k a0 a1 a2 (([] : List ByteArray)) 0)))))
theorem slot_Unpack.mono_l : ∀ k, (∀ y0 y1 y2 y3 y4, LeO (slot_Unpack.l0 k y0 y1 y2 y3 y4) (slot_Unpack.l0 (k + 1) y0 y1 y2 y3 y4))
  | 0 => fun _ _ _ _ _ r h => by simp [slot_Unpack.l0] at h
  | k + 1 => by
    have ih0 := slot_Unpack.mono_l k
    intro y0 y1 y2 y3 y4
    unfold slot_Unpack.l0
    repeat' first
    | (with_reducible exact ih0 _ _ _ _ _)
    | (with_reducible exact slot_Pack.mono _ _ _ _)
    | (with_reducible exact LeO.refl _)
    | (with_reducible exact LeO.none _)
    | (with_reducible refine LeO.ite ?_ ?_)
    | (with_reducible refine LeO.bind ?_ (fun _ => ?_))
theorem slot_Unpack.mono : ∀ a0 a1 a2 k, LeO (slot_Unpack.f k a0 a1 a2) (slot_Unpack.f (k + 1) a0 a1 a2) := by
  intro a0 a1 a2 k
  have ih0 := slot_Unpack.mono_l k
  unfold slot_Unpack.f
  repeat' first
    | (with_reducible exact ih0 _ _ _ _ _)
    | (with_reducible exact LeO.refl _)
    | (with_reducible refine LeO.ite ?_ ?_)
theorem slot_cut_run (s : ByteArray) (B n cap : Nat) (i j : Int) (h0 : 0 ≤ i) (h1 : i ≤ j) (h2 : j ≤ n) (hn : n = (bytesOf s).length) (hcap : n ≤ cap) :
    ∃ A' : Option Addr, (∀ W : World, (Instr.slice 46 (.slice (some ⟨B, 0, none⟩) n cap) (some (.int .i64 i)) (some (.int .i64 j)) (some (.int .i64 j))).run Try.prog W = .ok (.slice A' (j.toNat - i.toNat) (j.toNat - i.toNat)) W) ∧
      ∀ w : World, ReadsInt w .u8 (some ⟨B, 0, none⟩) n (bytesOf s) → (convert 46 9 (.slice A' (j.toNat - i.toNat) (j.toNat - i.toNat))).run Try.prog w = .ok (.string (s.extract i.toNat j.toNat)) w := by
  refine ⟨if j.toNat = i.toNat then some ⟨B, 0, none⟩ else (some (⟨B, 0, none⟩ : Addr)).map (·.add i.toNat), fun W => ?_, fun w hr => ?_⟩
  · obtain ⟨i0, hi, _, hz1, _⟩ := info_parts (show (Try.prog.info? 5).map (fun i => (i.zero, i.size, i.bytes)) = some (some (.int .u8 0), 1, 1) by kernel_rfl)
    have hel : Try.prog.elem 46 = 5 := by kernel_rfl
    have hu : Try.prog.underlying 46 = some (.slice (Try.prog.elem 46)) := by rw [hel]; exact Try.underlying46
    rw [run_slice_lhm W 46 _ n cap hu .i64 .i64 .i64 i j j h0 h1 (Int.le_refl _) (by omega), hel]
    simp [sizeOf, typeInfo, hi, hz1, sliced, Result.andThen]
  · have h3 := (hr.take_ j.toNat (by omega)).drop_ i.toNat (by omega) (Nat.le_refl _)
    rw [string_of_reads Try.underlying46 Try.underlying5 Try.underlying9 h3]
    congr 2
    refine ByteArray.ext (Array.ext' ?_)
    have e : (strOfNums (List.drop i.toNat (List.take j.toNat (bytesOf s)))).data.toList = List.drop i.toNat (List.take j.toNat s.data.toList) := by
      rw [strOfNums_data]
      unfold bytesOf
      rw [← List.map_take, ← List.map_drop, List.map_map]
      conv => rhs; rw [← List.map_id (List.drop i.toNat (List.take j.toNat s.data.toList))]
      refine List.map_congr_left (fun b _ => ?_)
      simp
    rw [e, ByteArray.data_extract, Array.toList_extract, List.extract_eq_take_drop, List.take_drop]
    congr 2
    omega
theorem slot_bytes_run (s : ByteArray) (w : World) (hs : s.size ≤ 65535) : ∃ (W2 : World) (cap : Nat), (bytesOf s).length ≤ cap ∧ (convert 9 46 (.string s)).run Try.prog (w.alloc (.cells #[.string s] 9)) = .ok (.slice (some ⟨w.heap.size + 1, 0, none⟩) (bytesOf s).length cap) W2 ∧
    W2.cell? ⟨w.heap.size, 0, none⟩ = some (.string s) ∧ ReadsInt W2 .u8 (some ⟨w.heap.size + 1, 0, none⟩) (bytesOf s).length (bytesOf s) ∧ Below w.heap.size w W2 ∧ W2.heap.size = w.heap.size + 2 := by
  have hsz : (w.alloc (.cells #[.string s] 9)).heap.size = w.heap.size + 1 := by simp
  refine ⟨Lib.bytesWorld (w.alloc (.cells #[.string s] 9)) 5 s, grownCap (w.alloc (.cells #[.string s] 9)) s.size 0 5, ?_, ?_, ?_, ?_, ?_, ?_⟩
  · rw [bytesOf_length]; exact grownCap_ge _ _ _ _
  · rw [bytesOf_length, print_bytes 9 46 5 Try.underlying9 Try.underlying46 Try.underlying5 s, hsz]
  · rw [Lib.bytesWorld_old _ _ _ _ (by simp)]
    simp [World.cell?, World.alloc, -World.alloc_eq]
  · have h := bytes_reads (w.alloc (.cells #[.string s] 9)) 5 s (by omega)
    rw [hsz] at h
    rw [bytesOf_length]
    exact h
  · exact bytes_below ((Below.refl w.heap.size w).alloc (Nat.le_refl _) _) (by simp) 5 s
  · rw [Lib.bytesWorld_size, hsz]
set_option maxHeartbeats 8000000 in
set_option maxRecDepth 100000 in
theorem slot_Unpack.calls (k : Nat) (a0 : ByteArray) (a1 : Int) (a2 : Int) (r1 : List ByteArray) (r2 : Int) (w : World) (h : slot_Unpack.f k a0 a1 a2 = some (r1, r2)) :
    Calls Try.prog 11 #[.string a0, .int .i64 a1, .int .i64 a2] w fun e w' => ∃ v0_ : Value, e = .returned (.tuple #[v0_, .int .i64 r2]) ∧ Kd.R Kd.string 9 w' w.heap.size (fun _ => True) v0_ r1 ∧ Below w.heap.size w w' := by
  unfold slot_Unpack.f at h
  by_cases c1 : a1 < 0
  · rw [if_pos c1] at h
    simp only [Option.some.injEq, Prod.mk.injEq] at h
    obtain ⟨rfl, rfl⟩ := h
    have c1b0 : decide (a1 < 0) = true := decide_eq_true c1
    clear c1
    go_enter Try.func11, Try.ntmps11
    go_wp2
    go_ret2
    exact ⟨_, rfl, Kd.R_nil _ _ _ _ _, (Below.refl _ _).alloc (Nat.le_refl _) _⟩
  rw [if_neg c1] at h
  have c1b0 : decide (a1 < 0) = false := decide_eq_false c1
  by_cases c2 : a2 < 0
  · rw [if_pos c2] at h
    simp only [Option.some.injEq, Prod.mk.injEq] at h
    obtain ⟨rfl, rfl⟩ := h
    have c2b0 : decide (a2 < 0) = true := decide_eq_true c2
    clear c1 c2
    go_enter Try.func11, Try.ntmps11
    go_wp2
    go_ret2
    exact ⟨_, rfl, Kd.R_nil _ _ _ _ _, (Below.refl _ _).alloc (Nat.le_refl _) _⟩
  rw [if_neg c2] at h
  have c2b0 : decide (a2 < 0) = false := decide_eq_false c2
  by_cases c3 : (a0.size : Int) > 65535
  · rw [if_pos c3] at h
    simp only [Option.some.injEq, Prod.mk.injEq] at h
    obtain ⟨rfl, rfl⟩ := h
    have c3b0 : decide (65535 < (a0.size : Int)) = true := decide_eq_true c3
    have c3b1 : decide (65535 < a0.size) = true := decide_eq_true (by omega)
    clear c1 c2 c3
    go_enter Try.func11, Try.ntmps11
    go_wp2
    go_ret2
    exact ⟨_, rfl, Kd.R_nil _ _ _ _ _, (Below.refl _ _).alloc (Nat.le_refl _) _⟩
  rw [if_neg c3] at h
  have c3b0 : decide (65535 < (a0.size : Int)) = false := decide_eq_false c3
  have c3b1 : decide (65535 < a0.size) = false := decide_eq_false (by omega)
  have hs : (a0.size : Int) ≤ 65535 := by omega
  by_cases c4 : a1 > (a0.size : Int)
  · rw [if_pos c4] at h
    simp only [Option.some.injEq, Prod.mk.injEq] at h
    obtain ⟨rfl, rfl⟩ := h
    have c4b0 : decide ((a0.size : Int) < a1) = true := decide_eq_true c4
    clear c1 c2 c3 c4
    go_enter Try.func11, Try.ntmps11
    go_wp2
    go_ret2
    exact ⟨_, rfl, Kd.R_nil _ _ _ _ _, (Below.refl _ _).alloc (Nat.le_refl _) _⟩
  rw [if_neg c4] at h
  have c4b0 : decide ((a0.size : Int) < a1) = false := decide_eq_false c4
  by_cases c5 : a2 > (a0.size : Int) / 2 - 1
  · rw [if_pos c5] at h
    simp only [Option.some.injEq, Prod.mk.injEq] at h
    obtain ⟨rfl, rfl⟩ := h
    have c5b0 : decide ((a0.size : Int) / 2 - 1 < a2) = true := decide_eq_true c5
    clear c1 c2 c3 c4 c5
    go_enter Try.func11, Try.ntmps11
    go_wp2
    go_ret2
    exact ⟨_, rfl, Kd.R_nil _ _ _ _ _, (Below.refl _ _).alloc (Nat.le_refl _) _⟩
  rw [if_neg c5] at h
  have c5b0 : decide ((a0.size : Int) / 2 - 1 < a2) = false := decide_eq_false c5
  obtain ⟨W2, cap, hcap, kb, hbox, hrd, hbl, hsz⟩ := slot_bytes_run a0 w (by omega)
  have HCAP := Aside0.mk hcap
  have HBX := Aside0.mk hbox
  have HRD := Aside0.mk hrd
  have HBL := Aside0.mk hbl
  have HSZ := Aside0.mk hsz
  have HA1 := Aside0.mk (show 0 ≤ a1 by omega)
  have HA2 := Aside0.mk (show a1 ≤ (a0.size : Int) by omega)
  have HS := Aside0.mk hs
  have H' := Aside0.mk h
  clear h hcap hrd hbl hsz c1 c2 c3 c4 c5
  go_enter Try.func11, Try.ntmps11
  go_wp2
  clear kb hs
  go_loopg [10, 43] k (fun kq v10 v43 w' => ∃ (x10 : List ByteArray) (x43 : Int), v43 = .int .i64 x43 ∧ Aside0 (slot_Unpack.l0 kq a0 a1 a2 x10 x43 = some (r1, r2)) ∧ Aside0 (kq ≤ k) ∧ Aside0 (Kd.R Kd.string 9 w' W2.heap.size (fun _ => True) v10 x10) ∧ Aside0 (Below W2.heap.size W2 w'))
  case atStart => exact ⟨[], 0, rfl, H', ⟨Nat.le_refl _⟩, ⟨Kd.R_nil _ _ _ _ _⟩, ⟨Below.refl _ _⟩⟩
  case round =>
    clear H' hbox
    obtain ⟨x10, x43, rfl, HA, HK1, HO_10, HB⟩ := hrel
    cases gk with
    | zero => exact absurd HA.out (by simp [slot_Unpack.l0])
    | succ k1 =>
      have H := HA.out
      clear HA
      simp only [slot_Unpack.l0] at H
      have hbox : wr.cell? ⟨w.heap.size, 0, none⟩ = some (.string a0) := (HB.out.cell (p := ⟨w.heap.size, 0, none⟩) (by rw [HSZ.out]; show w.heap.size < _; omega)).trans HBX.out
      by_cases c13 : x43 < a2
      · rw [if_pos c13] at H
        have c13b0 : decide (x43 < a2) = true := decide_eq_true c13
        clear c13
        replace H := Option.bind_eq_some_iff.mp H
        obtain ⟨t141, A140, H⟩ := H
        replace H := Option.bind_eq_some_iff.mp H
        obtain ⟨t142, A150, H⟩ := H
        have A14 := Aside0.mk A140
        have A15 := Aside0.mk A150
        clear A140 A150
        by_cases c16 : t141 > t142
        · rw [if_pos c16] at H
          have c16b0 : decide (t142 < t141) = true := decide_eq_true c16
          clear c16
          simp only [Option.some.injEq, Prod.mk.injEq] at H
          obtain ⟨rfl, rfl⟩ := H
          go_wp2_with fail
          refine (slot_at.calls a0 x43 _ t141 _ hbox A14.out).mono ?_
          rintro e w' ⟨rfl, ⟨nd, rfl⟩⟩
          go_wp2_with fail
          refine (slot_at.calls a0 _ _ t142 _ (by exact hbox) (by exact A15.out)).mono ?_
          rintro e w' ⟨rfl, ⟨nd', rfl⟩⟩
          go_wp2
          go_ret2
          exact ⟨_, rfl, Kd.R_nil _ _ _ _ _, by
            have HBF : Below w.heap.size w wr := HBL.out.trans (HB.out.mono (by rw [HSZ.out]; omega))
            repeat (first | exact HBF | apply pw_below_drewN | apply below_drew1)⟩
        · rw [if_neg c16] at H
          have c16b0 : decide (t142 < t141) = false := decide_eq_false c16
          have HLE := Aside0.mk (show t141 ≤ t142 by omega)
          clear c16
          by_cases c17 : t142 > (a0.size : Int)
          · rw [if_pos c17] at H
            have c17b0 : decide (((bytesOf a0).length : Int) < t142) = true := decide_eq_true (by rw [bytesOf_length]; exact c17)
            clear c17
            simp only [Option.some.injEq, Prod.mk.injEq] at H
            obtain ⟨rfl, rfl⟩ := H
            go_wp2_with fail
            refine (slot_at.calls a0 x43 _ t141 _ hbox A14.out).mono ?_
            rintro e w' ⟨rfl, ⟨nd, rfl⟩⟩
            go_wp2_with fail
            refine (slot_at.calls a0 _ _ t142 _ (by exact hbox) (by exact A15.out)).mono ?_
            rintro e w' ⟨rfl, ⟨nd', rfl⟩⟩
            go_wp2
            go_ret2
            exact ⟨_, rfl, Kd.R_nil _ _ _ _ _, by
              have HBF : Below w.heap.size w wr := HBL.out.trans (HB.out.mono (by rw [HSZ.out]; omega))
              repeat (first | exact HBF | apply pw_below_drewN | apply below_drew1)⟩
          · rw [if_neg c17] at H
            have c17b0 : decide (((bytesOf a0).length : Int) < t142) = false := decide_eq_false (by rw [bytesOf_length]; exact c17)
            by_cases c18 : 0 ≤ t141
            · rw [if_pos c18] at H
              by_cases c19 : x10.length < 8796093022208
              · rw [if_pos c19] at H
                have LMc19 := Aside0.mk c19
                obtain ⟨A', hsl, hcv⟩ := slot_cut_run a0 (w.heap.size + 1) (bytesOf a0).length cap t141 t142 c18 HLE.out (by rw [bytesOf_length]; omega) rfl HCAP.out
                have HCV := Aside0.mk hcv
                clear c17 c18 c19 hcv
                obtain ⟨js21, hjs21⟩ : ∃ j_ : ByteArray, (a0.extract t141.toNat t142.toNat) = j_ := ⟨_, rfl⟩
                rw [hjs21] at H
                rw [hjs21] at HCV
                have H' := Aside0.mk H
                clear H
                have hrd : ReadsInt wr .u8 (some ⟨w.heap.size + 1, 0, none⟩) (bytesOf a0).length (bytesOf a0) := HRD.out.below HB.out
                go_wp2_with fail
                refine (slot_at.calls a0 x43 _ t141 _ hbox A14.out).mono ?_
                rintro e w' ⟨rfl, ⟨nd, rfl⟩⟩
                go_wp2_with fail
                refine (slot_at.calls a0 _ _ t142 _ (by exact hbox) (by exact A15.out)).mono ?_
                rintro e w' ⟨rfl, ⟨nd', rfl⟩⟩
                go_wp2
                rw [HCV.out _ (hrd.below (by repeat (first | exact Below.refl _ _ | apply pw_below_drewN | apply below_drew1)))]
                obtain ⟨y143, hy143⟩ : ∃ y_ : List ByteArray, y_ = (x10 ++ [js21]) := ⟨_, rfl⟩
                have Ny143 := Aside0.mk hy143
                clear hy143 HCV
                rw [← Ny143.out] at H'
                go_wp2_with ((with_reducible refine gate_builtin (b := .append) (xs := #[.tmp 62, .tmp 69]) rfl ?_); at_builtin; refine Kd.R_append Kd.string (w0 := W2) W2.heap.size rfl (.tmp 62) (.tmp 69) 22 9 (.string ⟨#[]⟩) 16 rfl Try.underlying22 info9 rfl (by decide) (by omega) u10 x10 js21 [.string js21] (fun _ => True) (fun _ => False) rfl rfl ?aP (fun _ hk => hk.elim) ?aF ?aO ?aB ?aS ?aL ?_; (case aP => exact rfl); (case aB => exact (by repeat (first | (with_reducible first | exact HB.out | apply below_alloc | apply pw_below_drewN | apply below_drew1) | exact HB.out))); (case aF => exact (fun _ _ => trivial)); (case aO => exact (by (with_reducible repeat (first | apply Kd.R_alloc | apply Kd.R_drewN | apply Kd.R_drew)); exact HO_10.out)); (case aS => exact (below_size (by repeat (first | (with_reducible first | exact HB.out | apply below_alloc | apply pw_below_drewN | apply below_drew1) | exact HB.out)))); (case aL => have := LMc19.out; omega); intro v144 w23 ho hb hg hat; rw [← Ny143.out] at ho; have n0_ := Aside0.mk (hb); have n1_ := Aside0.mk (ho); clear HB; clear HO_10; have HB := n0_; have HO145 := n1_; clear n0_ n1_; clear ho hb hg hat)
                go_roundg k1
                case measure => have := HK1.out; omega
                case rel => exact ⟨y143, wrap64 (x43 + 1), (by first | rfl | (simp; done) | (simp [*]; done)), H', ⟨by have := HK1.out; omega⟩, ⟨by (with_reducible repeat (first | apply Kd.R_alloc | apply Kd.R_drewN | apply Kd.R_drew)); exact HO145.out⟩, ⟨by repeat (first | (with_reducible first | exact HB.out | apply below_alloc | apply pw_below_drewN | apply below_drew1) | exact HB.out)⟩⟩
              · rw [if_neg c19] at H
                exact absurd H (by simp)
            · rw [if_neg c18] at H
              exact absurd H (by simp)
      · rw [if_neg c13] at H
        have c13b0 : decide (x43 < a2) = false := decide_eq_false c13
        clear c13
        rw [if_pos HA1.out, if_pos HA2.out] at H
        obtain ⟨js26, hjs26⟩ : ∃ j_ : ByteArray, (a0.extract 0 (a1 : Int).toNat) = j_ := ⟨_, rfl⟩
        rw [hjs26] at H
        replace H := Option.bind_eq_some_iff.mp H
        obtain ⟨⟨t139, t140⟩, A270, H⟩ := H
        replace H : (if t140 = 0 then (if t139.toList = a0.toList then (some (x10, 0)) else (some (([] : List ByteArray), 3))) else (some (([] : List ByteArray), 3))) = some (r1, r2) := H
        have A27 := Aside0.mk A270
        clear A270
        have HA1' := HA1.out
        have HA2' := HA2.out
        obtain ⟨Ao30, co30, eo30⟩ := Kd.R_slice HO_10.out
        subst eo30
        have H' := Aside0.mk H
        clear H
        have HKP : Aside0 (∀ W' : World, Below wr.heap.size wr W' → W'.cell? ⟨w.heap.size, 0, none⟩ = some (.string a0)) := ⟨fun W' hb => (hb.cell (p := ⟨w.heap.size, 0, none⟩) (by have := HB.out.size; have := HSZ.out; show w.heap.size < _; omega)).trans hbox⟩
        go_upto_region 16 with fail
        go_region_held3 (fun W' : World => W'.cell? ⟨w.heap.size, 0, none⟩ = some (.string a0) ∧ Below wr.heap.size wr W') ((refine ⟨HKP.out _ ?_, ?_⟩ <;> repeat (first | exact Below.refl _ _ | assumption | apply pw_below_drewN | apply below_drew1))) (first | ((try go_simp); go_at_call 9; (with_reducible refine (slot_Pack.calls k1 (a0.size : Int) js26 _ _ x10 t139 t140 _ ?side1 ?side2 A27.out).mono ?_); (case side1 => repeat (first | exact (Kd.R_reads' HO_10.out).2.2 | (with_reducible refine Kd.C_alloc ?_ _) | (with_reducible refine Kd.C_drewN ?_ _) | (with_reducible refine Kd.C_drew ?_))); (case side2 => exact (Kd.R_reads' HO_10.out).2.1); rintro e w31 ⟨rfl, hb⟩; have HB31 : Below wr.heap.size wr w31 := below_step (by repeat (first | exact Below.refl _ _ | apply pw_below_drewN | apply below_drew1)) hb))
        have hbox31 : w31.cell? ⟨w.heap.size, 0, none⟩ = some (.string a0) := HKP.out _ HB31
        have HBF : Aside0 (Below w.heap.size w w31) := ⟨below_step (HBL.out.trans (HB.out.mono (by rw [HSZ.out]; omega))) HB31⟩
        have HOF : Aside0 (Kd.R Kd.string 9 w31 w.heap.size (fun _ => True) (.slice Ao30 x10.length co30) x10) := ⟨Kd.R_lower (Kd.R_below HO_10.out HB31) (by rw [HSZ.out]; omega)⟩
        have H := H'.out
        clear H' HB HB31 hb HKP hbox
        by_cases c28 : t140 = 0
        · rw [if_pos c28] at H
          have c28b0 : (t140 == 0) = true := beq_iff_eq.mpr c28
          have c28b1 : (t140 != 0) = false := bne_eq_false_iff_eq.mpr c28
          clear c28
          by_cases c29 : t139.toList = a0.toList
          · rw [if_pos c29] at H
            have c29b0 : (t139.toList == a0.toList) = true := beq_iff_eq.mpr c29
            have c29b1 : (t139.toList != a0.toList) = false := bne_eq_false_iff_eq.mpr c29
            clear c29
            simp only [Option.some.injEq, Prod.mk.injEq] at H
            obtain ⟨rfl, rfl⟩ := H
            go_wp2
            go_ret2
            exact ⟨_, rfl, by (with_reducible repeat (first | apply Kd.R_alloc | apply Kd.R_drewN | apply Kd.R_drew)); exact HOF.out, by repeat (first | exact HBF.out | apply pw_below_drewN | apply below_drew1)⟩
          · rw [if_neg c29] at H
            have c29b0 : (t139.toList == a0.toList) = false := beq_eq_false_iff_ne.mpr c29
            have c29b1 : (t139.toList != a0.toList) = true := bne_iff_ne.mpr c29
            clear c29
            simp only [Option.some.injEq, Prod.mk.injEq] at H
            obtain ⟨rfl, rfl⟩ := H
            go_wp2
            go_ret2
            exact ⟨_, rfl, Kd.R_nil _ _ _ _ _, by repeat (first | exact HBF.out | apply pw_below_drewN | apply below_drew1)⟩
        · rw [if_neg c28] at H
          have c28b0 : (t140 == 0) = false := beq_eq_false_iff_ne.mpr c28
          have c28b1 : (t140 != 0) = true := bne_iff_ne.mpr c28
          clear c28
          simp only [Option.some.injEq, Prod.mk.injEq] at H
          obtain ⟨rfl, rfl⟩ := H
          go_wp2
          go_ret2
          exact ⟨_, rfl, Kd.R_nil _ _ _ _ _, by repeat (first | exact HBF.out | apply pw_below_drewN | apply below_drew1)⟩


/-! ### withyref08_at: function 22 -/
def withyref08_at.f (a0 : ByteArray) (a1 : Int) : Option (Int) := if 0 ≤ (wrap64 ((wrap64 ((a0.size : Int) - (wrap64 (2 * a1)))) - 2)) then (if (wrap64 ((wrap64 ((a0.size : Int) - (wrap64 (2 * a1)))) - 2)) < (a0.size : Int) then (if 0 ≤ (wrap64 ((wrap64 ((wrap64 ((a0.size : Int) - (wrap64 (2 * a1)))) - 2)) + 1)) then (if (wrap64 ((wrap64 ((wrap64 ((a0.size : Int) - (wrap64 (2 * a1)))) - 2)) + 1)) < (a0.size : Int) then (some (wrap64 ((wrap64 (bt a0 (wrap64 ((wrap64 ((a0.size : Int) - (wrap64 (2 * a1)))) - 2)))) + (wrap64 (256 * (wrap64 (bt a0 (wrap64 ((wrap64 ((wrap64 ((a0.size : Int) - (wrap64 (2 * a1)))) - 2)) + 1))))))))) else (none)) else (none)) else (none)) else (none)
set_option maxHeartbeats 8000000 in
set_option maxRecDepth 100000 in
theorem withyref08_at.calls (a0 : ByteArray) (a1 : Int) (r : Int) (w : World) (h : withyref08_at.f a0 a1 = some r) :
    Calls Try.prog 22 #[.string a0, .int .i64 a1] w fun e w' => e = .returned (.int .i64 r) ∧ Drawn0 w w' := by
  have H : (if 0 ≤ (wrap64 ((wrap64 ((a0.size : Int) - (wrap64 (2 * a1)))) - 2)) then (if (wrap64 ((wrap64 ((a0.size : Int) - (wrap64 (2 * a1)))) - 2)) < (a0.size : Int) then (if 0 ≤ (wrap64 ((wrap64 ((wrap64 ((a0.size : Int) - (wrap64 (2 * a1)))) - 2)) + 1)) then (if (wrap64 ((wrap64 ((wrap64 ((a0.size : Int) - (wrap64 (2 * a1)))) - 2)) + 1)) < (a0.size : Int) then (some (wrap64 ((wrap64 (bt a0 (wrap64 ((wrap64 ((a0.size : Int) - (wrap64 (2 * a1)))) - 2)))) + (wrap64 (256 * (wrap64 (bt a0 (wrap64 ((wrap64 ((wrap64 ((a0.size : Int) - (wrap64 (2 * a1)))) - 2)) + 1))))))))) else (none)) else (none)) else (none)) else (none)) = some r := h
  clear h
  obtain ⟨ji3, hji3⟩ : ∃ j_ : Int, (wrap64 ((wrap64 ((a0.size : Int) - (wrap64 (2 * a1)))) - 2)) = j_ := ⟨_, rfl⟩
  replace H : (if 0 ≤ (ji3) then (if (ji3) < (a0.size : Int) then (if 0 ≤ (wrap64 ((ji3) + 1)) then (if (wrap64 ((ji3) + 1)) < (a0.size : Int) then (some (wrap64 ((wrap64 (bt a0 (ji3))) + (wrap64 (256 * (wrap64 (bt a0 (wrap64 ((ji3) + 1))))))))) else (none)) else (none)) else (none)) else (none)) = some r := by first | (rw [hji3] at H; exact H) | (simp only [hji3] at H ⊢; exact H)
  have hji3w : (IntKind.i64.wrap ((wrap64 ((a0.size : Int) - (wrap64 (2 * a1)))) - 2)) = ji3 := (i64_w _).trans hji3
  by_cases c4 : 0 ≤ (ji3)
  · rw [if_pos c4] at H
    have c4b0 : decide (0 ≤ (ji3)) = true := decide_eq_true c4
    clear c4
    by_cases c5 : (ji3) < (a0.size : Int)
    · rw [if_pos c5] at H
      have c5b0 : decide ((ji3) < (a0.size : Int)) = true := decide_eq_true c5
      clear c5
      obtain ⟨ji7, hji7⟩ : ∃ j_ : Int, (wrap64 ((ji3) + 1)) = j_ := ⟨_, rfl⟩
      replace H : (if 0 ≤ (ji7) then (if (ji7) < (a0.size : Int) then (some (wrap64 ((wrap64 (bt a0 (ji3))) + (wrap64 (256 * (wrap64 (bt a0 (ji7)))))))) else (none)) else (none)) = some r := by first | (rw [hji7] at H; exact H) | (simp only [hji7] at H ⊢; exact H)
      have hji7w : (IntKind.i64.wrap ((ji3) + 1)) = ji7 := (i64_w _).trans hji7
      by_cases c8 : 0 ≤ (ji7)
      · rw [if_pos c8] at H
        have c8b0 : decide (0 ≤ (ji7)) = true := decide_eq_true c8
        clear c8
        by_cases c9 : (ji7) < (a0.size : Int)
        · rw [if_pos c9] at H
          have c9b0 : decide ((ji7) < (a0.size : Int)) = true := decide_eq_true c9
          clear c9
          obtain rfl := Option.some.inj H
          have p6 : 0 ≤ ((ji3) : Int) := of_decide_eq_true (by first | (with_reducible assumption) | assumption)
          have q6 : (ji3) < (a0.size : Int) := of_decide_eq_true (by first | (with_reducible assumption) | assumption)
          have hx6 := bt_at a0 (ji3)
          replace p6 := eq_true p6
          replace q6 := eq_true q6
          have p10 : 0 ≤ ((ji7) : Int) := of_decide_eq_true (by first | (with_reducible assumption) | assumption)
          have q10 : (ji7) < (a0.size : Int) := of_decide_eq_true (by first | (with_reducible assumption) | assumption)
          have hx10 := bt_at a0 (ji7)
          replace p10 := eq_true p10
          replace q10 := eq_true q10
          go_enter Try.func22, Try.ntmps22
          go_wp2
          repeat (go_quiet (fail); try go_wp2)
          go_ret
          exact ⟨by first | rfl | (simp; done) | (simp only [← hji3, ← hji7] <;> (first | rfl | simp)) | (simp [*]; done), by repeat (first | exact Drawn0.refl _ | apply Drawn0.step)⟩
        · rw [if_neg c9] at H
          exact absurd H (by simp)
      · rw [if_neg c8] at H
        exact absurd H (by simp)
    · rw [if_neg c5] at H
      exact absurd H (by simp)
  · rw [if_neg c4] at H
    exact absurd H (by simp)

end Go.Proofs.Ytkhbmgnjopkeaaa.P
