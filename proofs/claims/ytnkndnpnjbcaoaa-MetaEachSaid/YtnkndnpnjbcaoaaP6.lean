/- What is proved here: for functions of the Go text, a Lean function each, and that the call comes to just what it answers. Conditions: as each contract names them. Written by wip/tools/myprint.py, a driver of the print of the kit. -/
import Derived.Test.YtnkndnpnjbcaoaaP0
namespace Go.Proofs.Ytnkndnpnjbcaoaa.P
open Go.RowKit Go.Proofs.YtnkndnpnjbcaoaaW.PrintWords Go.Proofs.YtnkndnpnjbcaoaaW.PrintLast Go.Proofs.YtnkndnpnjbcaoaaW.PrintMore
attribute [local go_sem] max2_int min2_int max_two min_two max_three min_three max_four min_four Go.Proofs.YtnkndnpnjbcaoaaLaws.str_leq Go.Proofs.YtnkndnpnjbcaoaaLaws.str_gtr Go.Proofs.YtnkndnpnjbcaoaaLaws.str_geq Go.Proofs.YtnkndnpnjbcaoaaLaws.max2_str Go.Proofs.YtnkndnpnjbcaoaaLaws.min2_str   -- for this text's walks alone
set_option linter.unusedVariables false
set_option linter.unusedSimpArgs false

/-! ### head_bytes: function 40 -/
def head_bytes.l0 : Nat → List Int → List Int → Int → Int → Option (ByteArray)
 | 0, _, _, _, _ => none
 | k + 1, x3, x6, x7, x8 => if x8 < x7 then (if 0 ≤ x8 then (if x8 < (x6.length : Int) then (if x3.length < 140737488355328 then (head_bytes.l0 k (x3 ++ [(rd x6 x8) % 256]) x6 x7 (wrap64 (x8 + 1))) else (none)) else (none)) else (none)) else (some (strOfNums x3))
def head_bytes.f (k : Nat) (l0 : List Int) : Option (ByteArray) := head_bytes.l0 k ([] : List Int) l0 (l0.length : Int) 0
theorem head_bytes.mono_l : ∀ k, (∀ y0 y1 y2 y3, LeO (head_bytes.l0 k y0 y1 y2 y3) (head_bytes.l0 (k + 1) y0 y1 y2 y3))
 | 0 => fun _ _ _ _ r h => by simp [head_bytes.l0] at h
 | k + 1 => by
  have ih0 := head_bytes.mono_l k
  ·
   intro y0 y1 y2 y3
   unfold head_bytes.l0
   repeat' first
   | (with_reducible exact ih0 _ _ _ _)
   | (with_reducible exact LeO.refl _)
   | (with_reducible exact LeO.none _)
   | (with_reducible refine LeO.ite ?_ ?_)
   | (with_reducible refine LeO.bind ?_ (fun _ => ?_))
   | exact ih0 _ _ _ _
   | exact LeO.none _
   | refine LeO.ite ?_ ?_
   | refine LeO.bind ?_ (fun _ => ?_)
theorem head_bytes.mono : ∀ a0 k, LeO (head_bytes.f k a0) (head_bytes.f (k + 1) a0) := by
 intro a0 k
 have ih0 := head_bytes.mono_l k
 unfold head_bytes.f
 repeat' first
   | (with_reducible exact ih0 _ _ _ _)
   | (with_reducible exact LeO.refl _)
   | (with_reducible exact LeO.none _)
   | (with_reducible refine LeO.ite ?_ ?_)
   | (with_reducible refine LeO.bind ?_ (fun _ => ?_))
   | exact ih0 _ _ _ _
   | exact LeO.none _
   | refine LeO.ite ?_ ?_
   | refine LeO.bind ?_ (fun _ => ?_)
set_option maxHeartbeats 8000000 in
set_option maxRecDepth 100000 in
theorem head_bytes.calls (k : Nat) (A0 : Option Addr) (c0 : Nat) (l0 : List Int) (r : ByteArray) (w : World) (hr0 : Kd.C (Kd.int .i64) w A0 l0.length l0) (hc0 : l0.length ≤ c0) (h : head_bytes.f k l0 = some r) :
  Calls Try.prog 40 #[.slice A0 l0.length c0] w fun e w' => e = .returned (.string r) ∧ Below w.heap.size w w' := by
 have HR0 := Aside0.mk hr0
 have HC0 := Aside0.mk hc0
 clear hr0 hc0
 have HB := Aside0.mk (Below.refl w.heap.size w)
 have H : (head_bytes.l0 k ([] : List Int) l0 (l0.length : Int) 0) = some r := h
 clear h
 have H' := Aside0.mk H
 clear H
 go_enter Try.func40, Try.ntmps40
 go_wp2
 go_loopg [3, 8] k (fun kq v3 v8 w' => ∃ (x3_1 : List Int) (x8_1 : Int), v8 = .int .i64 x8_1 ∧ Aside0 (head_bytes.l0 kq x3_1 l0 (l0.length : Int) x8_1 = some r) ∧ Aside0 (kq ≤ k) ∧ Aside0 (Kd.R (Kd.int .u8) 5 w' w.heap.size (fun _ => True) v3 x3_1) ∧ Aside0 (Below w.heap.size w w'))
 case atStart => exact ⟨(([] : List Int)), (0), (by first | rfl | (simp; done) | (simp [*]; done)), H', ⟨Nat.le_refl _⟩, ⟨by first | exact Kd.R_nil _ _ _ _ _ | exact Kd.N_nil _ _ _ _ _ | exact Kd.V_nil _ _ _ _ _ | exact Kd.Q_nil _ _ _ _ _ | exact Kd.S_nil _ _ _ _ _⟩, ⟨by repeat (first | (with_reducible first | exact HB.out | apply below_alloc | apply pw_below_drewN | apply below_drew1) | exact HB.out)⟩⟩
 case round =>
  clear H'
  obtain ⟨x3_1, x8_1, rfl, HA, HK1, HO_3, HB⟩ := hrel
  cases gk with
  | zero => exact absurd HA.out (by simp [head_bytes.l0])
  | succ k1 =>
   have H := HA.out
   clear HA
   simp only [head_bytes.l0] at H
   by_cases c2 : x8_1 < (l0.length : Int)
   ·
    rw [if_pos c2] at H
    have c2b0 : decide (x8_1 < (l0.length : Int)) = true := decide_eq_true c2
    clear c2
    by_cases c3 : 0 ≤ x8_1
    ·
     rw [if_pos c3] at H
     have c3b0 : decide (0 ≤ x8_1) = true := decide_eq_true c3
     clear c3
     by_cases c4 : x8_1 < (l0.length : Int)
     ·
      rw [if_pos c4] at H
      have c4b0 : decide (x8_1 < (l0.length : Int)) = true := decide_eq_true c4
      clear c4
      by_cases c5 : x3_1.length < 140737488355328
      ·
       rw [if_pos c5] at H
       have LMc5 := Aside0.mk c5
       clear c5
       obtain ⟨y129, hy129⟩ : ∃ y_ : List Int, y_ = (x3_1 ++ [(rd l0 x8_1) % 256]) := ⟨_, rfl⟩
       replace H : (head_bytes.l0 k1 y129 l0 (l0.length : Int) (wrap64 (x8_1 + 1))) = some r := by first | (rw [hy129]; with_reducible exact H) | (have H2_ := (Option.bind_some _ _).symm.trans H; rw [hy129]; with_reducible exact H2_) | (have H2_ := (Option.bind_some _ _).symm.trans H; with_reducible exact H2_) | with_reducible exact H | (rw [hy129]; exact H) | exact H
       have Ny129 := Aside0.mk hy129
       clear hy129
       have H' := Aside0.mk H
       clear H
       have p128 : 0 ≤ (x8_1 : Int) := of_decide_eq_true (by first | (with_reducible assumption) | assumption)
       have q128 : x8_1 < (l0.length : Int) := of_decide_eq_true (by first | (with_reducible assumption) | assumption)
       obtain ⟨ad128, e128, hx128_0⟩ := Kd.at_int HR0.out x8_1 p128 q128
       cases e128
       replace hx128_0 := (HB.out.cell (World.block_lt_of_cell? w _ hx128_0)).trans hx128_0
       replace p128 := eq_true p128
       replace q128 := eq_true q128
       go_wp2_with (first | ((with_reducible refine gate_builtin (b := .append) (xs := #[.tmp 12, .tmp 15]) rfl ?_); at_builtin; refine Kd.R_append (Kd.int .u8) (w0 := w) w.heap.size rfl (.tmp 12) (.tmp 15) 65 5 (.int .u8 0) 1 rfl Try.underlying65 info5 rfl (by decide) (by omega) u3 x3_1 ((rd l0 x8_1) % 256) [.int .u8 ((rd l0 x8_1) % 256)] (fun _ => True) (fun _ => False) rfl rfl ?aP (fun _ hk => hk.elim) ?aF ?aO ?aB ?aS ?aL ?_; (case aP => exact rfl); (case aB => exact (by repeat (first | (with_reducible first | exact HB.out | apply below_alloc | apply pw_below_drewN | apply below_drew1) | exact HB.out))); (case aF => exact (fun _ _ => trivial)); (case aO => exact (by (with_reducible repeat (first | apply Kd.R_alloc | apply Kd.R_drewN | apply Kd.R_drew)); exact HO_3.out)); (case aS => exact (below_size (by repeat (first | (with_reducible first | exact HB.out | apply below_alloc | apply pw_below_drewN | apply below_drew1) | exact HB.out)))); (case aL => have := LMc5.out; omega); intro v130 w6 ho hb hg hat; rw [← Ny129.out] at ho; have n0_ := Aside0.mk (hb); have n1_ := Aside0.mk (ho); clear HB; clear HO_3; have HB := n0_; have HO131 := n1_; clear n0_ n1_; clear ho hb hg hat))
       go_roundg k1
       case measure => have := HK1.out; omega
       case rel => exact ⟨(y129), (wrap64 (x8_1 + 1)), (by first | rfl | (simp; done) | (simp [*]; done)), H', ⟨by have := HK1.out; omega⟩, ⟨by (with_reducible repeat (first | apply Kd.R_alloc | apply Kd.R_drewN | apply Kd.R_drew)); exact HO131.out⟩, ⟨by repeat (first | (with_reducible first | exact HB.out | apply below_alloc | apply pw_below_drewN | apply below_drew1) | exact HB.out)⟩⟩
      ·
       rw [if_neg c5] at H
       exact absurd H (by simp)
     ·
      rw [if_neg c4] at H
      exact absurd H (by simp)
    ·
     rw [if_neg c3] at H
     exact absurd H (by simp)
   ·
    rw [if_neg c2] at H
    have c2b0 : decide (x8_1 < (l0.length : Int)) = false := decide_eq_false c2
    clear c2
    obtain rfl := Option.some.inj H
    have hcv7 := own_string (P := Try.prog) Try.underlying65 Try.underlying5 Try.underlying9 (Kd.own_of_R HO_3.out)
    go_wp2
    go_ret
    exact ⟨by first | rfl | (simp [errW_none, errW_some] <;> rfl) | (simp [*, errW_none, errW_some] <;> rfl), by repeat (first | (with_reducible first | exact HB.out | apply below_alloc | apply pw_below_drewN | apply below_drew1) | exact HB.out)⟩

/-! ### sum_step: function 64, by hand -/
def sum_shift (r : Int) : Int := if Go.bits .and .u32 r 1 = 1 then Go.bits .xor .u32 (r / 2) 2197175160 else r / 2
def sum_stepN : Nat → Int → Int
 | 0, r => r
 | n + 1, r => sum_stepN n (sum_shift r)
def sum_step.f (a0 : Int) : Option (Int) := some (sum_stepN 8 a0)
theorem sum_shift.calls (B : Nat) (r : Int) (w : World) (hb : w.heap[B]? = some (.cells #[.int .u32 r] 48 (0, 0))) :
  Calls Try.prog 65 #[.pointer (some ⟨B, 0, none⟩)] w fun e w' => (∃ v, e = .returned v) ∧ w'.heap[B]? = some (.cells #[.int .u32 (sum_shift r)] 48 (0, 0)) ∧ Below B w w' := by
 have hc : w.cell? ⟨B, 0, none⟩ = some (.int .u32 r) := (blk_cell hb 0).trans rfl
 have hf := blk_frozen hb 0
 have BK := Aside0.mk hb
 clear hb
 by_cases c : Go.bits .and .u32 r 1 = 1
 ·
  have c0 : (Go.bits .and .u32 r 1 == 1) = true := beq_iff_eq.mpr c
  have E : Aside0 (sum_shift r = Go.bits .xor .u32 (r / 2) 2197175160) := ⟨if_pos c⟩
  clear c
  go_enter Try.func65, Try.ntmps65
  go_wp2
  go_end0
  exact ⟨⟨_, rfl⟩, by rw [E.out]; exact blk_put (blk_put BK.out 0 _ rfl) 0 _ rfl, ((Below.refl B w).setCell (p := ⟨B, 0, none⟩) (Nat.le_refl _) _).setCell (p := ⟨B, 0, none⟩) (Nat.le_refl _) _⟩
 ·
  have c0 : (Go.bits .and .u32 r 1 == 1) = false := beq_eq_false_iff_ne.mpr c
  have E : Aside0 (sum_shift r = r / 2) := ⟨if_neg c⟩
  clear c
  go_enter Try.func65, Try.ntmps65
  go_wp2
  go_end0
  exact ⟨⟨_, rfl⟩, by rw [E.out]; exact blk_put BK.out 0 _ rfl, (Below.refl B w).setCell (p := ⟨B, 0, none⟩) (Nat.le_refl _) _⟩
theorem sum_step.calls (a0 : Int) (r : Int) (w : World) (h : sum_step.f a0 = some r) :
  Calls Try.prog 64 #[.int .u32 a0] w fun e w' => e = .returned (.int .u32 r) ∧ Below w.heap.size w w' := by
 obtain rfl := Option.some.inj h
 clear h
 have HB := Aside0.mk (Below.refl w.heap.size w)
 go_enter Try.func64, Try.ntmps64
 go_wp2_with (first | ((with_reducible refine gate_dst (N := 1) rfl ?_); refine box_event ?hg (N := 1) ?hd (cs := #[.int .u32 a0]) (t := 48) ?hr ?_; (case hd => rfl); (case hg => rfl); (case hr => first | (go_simp; done) | (go_simp; rfl)); intro gb hg w1 hbox hb; have n0_ := Aside0.mk (below_step (by repeat (first | (with_reducible first | exact HB.out | apply below_alloc | apply pw_below_drewN | apply below_drew1) | exact HB.out)) hb); have n1_ := Aside0.mk hbox; have n2_ := Aside0.mk ((by rw [hg]; exact (below_size (by repeat (first | (with_reducible first | exact HB.out | apply below_alloc | apply pw_below_drewN | apply below_drew1) | exact HB.out))) : w.heap.size ≤ gb)); clear HB; have HB := n0_; have BK := n1_; have GE := n2_; clear n0_ n1_ n2_; clear hb hbox hg))
 go_loopg [5] 9 (fun kq v5 w' => ∃ (j : Nat) (x : Int), v5 = .int .i64 (j : Int) ∧ Aside0 (j ≤ 8 ∧ kq + j = 9 ∧ sum_stepN (8 - j) x = sum_stepN 8 a0) ∧ Aside0 (w'.heap[gb]? = some (.cells #[.int .u32 x] 48 (0, 0))) ∧ Aside0 (Below w.heap.size w w'))
 case atStart => exact ⟨0, a0, rfl, ⟨⟨by omega, rfl, rfl⟩⟩, BK, HB⟩
 case round =>
  clear HB BK
  obtain ⟨j, x, rfl, HX, BK, HB⟩ := hrel
  by_cases c : j < 8
  ·
   have c0 : (j : Int) < 8 := by omega
   have c1 : decide ((j : Int) < 8) = true := decide_eq_true c0
   clear c0
   go_wp2_with fail
   refine (sum_shift.calls gb x _ (by exact BK.out)).mono ?_
   rintro e w2 ⟨⟨v, rfl⟩, hk, hb⟩
   have n0_ := Aside0.mk (HB.out.trans (hb.mono GE.out) : Below w.heap.size w w2)
   have n1_ := Aside0.mk hk
   clear HB BK hb hk
   have HB := n0_
   have BK := n1_
   clear n0_ n1_
   go_wp2
   go_roundg (8 - j)
   case measure => have := HX.out; omega
   case rel =>
    refine ⟨j + 1, sum_shift x, ?_, ⟨by have := HX.out; refine ⟨by omega, by omega, ?_⟩; rw [← this.2.2, show 8 - j = (8 - (j + 1)) + 1 by omega]; rfl⟩, BK, HB⟩
    first | rfl | (simp; done)
  ·
   have c0 : ¬ (j : Int) < 8 := by omega
   have c1 : decide ((j : Int) < 8) = false := decide_eq_false c0
   clear c0
   have e8 : j = 8 := by have := HX.out; omega
   have hc : wr.cell? ⟨gb, 0, none⟩ = some (.int .u32 x) := (blk_cell BK.out 0).trans rfl
   go_wp2
   go_ret
   refine ⟨?_, by repeat (first | exact HB.out | apply below_alloc | apply pw_below_drewN | apply below_drew1)⟩
   have := HX.out.2.2
   rw [e8] at this
   rw [← this]
   rfl


-- NOT PRINTED: function 62 (sum_table)

/-! ### sum_More: function 53, by hand -/
def sum_tab : List Int := (List.range 256).map fun i : Nat => sum_stepN 8 (i : Int)
def sum_part (i : Nat) : List Int := (List.range 256).map fun j : Nat => if j < i then sum_stepN 8 (j : Int) else 0
theorem sum_part_zero : sum_part 0 = List.replicate 256 0 := by
 unfold sum_part
 refine List.ext_getElem (by rw [List.length_map, List.length_range, List.length_replicate]) (fun n h1 h2 => ?_)
 rw [List.getElem_map, List.getElem_range, List.getElem_replicate, if_neg (Nat.not_lt_zero _)]
theorem sum_part_all : sum_part 256 = sum_tab := by
 unfold sum_part sum_tab
 refine List.map_congr_left (fun j hj => ?_)
 rw [if_pos (List.mem_range.1 hj)]
theorem sum_part_succ (i : Nat) (h : i < 256) : (sum_part i).set i (sum_stepN 8 (i : Int)) = sum_part (i + 1) := by
 unfold sum_part
 refine List.ext_getElem (by rw [List.length_set, List.length_map, List.length_map]) (fun n h1 h2 => ?_)
 rw [List.getElem_set]
 simp only [List.getElem_map, List.getElem_range]
 by_cases e : i = n
 ·
  subst e
  rw [if_pos rfl, if_pos (by omega)]
 ·
  rw [if_neg e]
  by_cases h3 : n < i
  ·
   rw [if_pos h3, if_pos (by omega)]
  ·
   rw [if_neg h3, if_neg (by omega)]
def sum_vals (l : List Int) : Array Value := (l.map (Value.int .u32)).toArray
theorem sum_zero_vals : sum_vals (sum_part 0) = Array.replicate 256 (.int .u32 0) := by
 rw [sum_part_zero]
 unfold sum_vals
 rw [List.map_replicate]
 rfl
theorem sum_vals_set (i : Nat) (h : i < 256) : (sum_vals (sum_part i)).setIfInBounds i (.int .u32 (sum_stepN 8 (i : Int))) = sum_vals (sum_part (i + 1)) := by
 unfold sum_vals
 rw [← sum_part_succ i h]
 simp
theorem sum_there {w : World} {g n : Nat} {t : TypeId} {cs : Array Value} (h : w.heap[g]? = some (.cells cs t (0, 0))) (hn : cs.size = n) : w.there g 0 n := fun j hj => by
 rw [Nat.zero_add, blk_cell h j, Array.getElem?_eq_getElem (by omega)]
 exact ⟨rfl, blk_frozen h j⟩
theorem sum_one : (sum_vals sum_tab).all (·.oneCell') = true := by
 rw [Array.all_eq_true_iff_forall_mem]
 intro v hv
 unfold sum_vals at hv
 obtain ⟨x, _, rfl⟩ := List.mem_map.1 (by simpa using hv)
 rfl
theorem set_all_heap {g : Nat} {t : TypeId} : ∀ (vs pre cur : List Value) (w : World), w.heap[g]? = some (.cells (pre ++ cur).toArray t (0, 0)) → cur.length = vs.length → (w.setCells g pre.length vs).heap[g]? = some (.cells (pre ++ vs).toArray t (0, 0))
 | [], pre, cur, w, h, hl => by
  obtain rfl : cur = [] := List.length_eq_zero_iff.1 (by simpa using hl)
  exact h
 | v :: vs, pre, [], w, h, hl => by simp at hl
 | v :: vs, pre, c :: cur, w, h, hl => by
  have := set_all_heap vs (pre ++ [v]) cur (w.setCell ⟨g, pre.length, none⟩ v) (blk_put h pre.length v (by simp)) (by simpa using hl)
  rw [List.append_assoc, List.length_append] at this
  exact this
theorem set_all_below {g n : Nat} {w0 : World} (hg : n ≤ g) : ∀ (vs : List Value) (o : Nat) (w : World), Below n w0 w → Below n w0 (w.setCells g o vs)
 | [], _, _, h => h
 | v :: vs, o, w, h => set_all_below hg vs (o + 1) _ (h.setCell (p := ⟨g, o, none⟩) hg v)
theorem sum_index (W : World) (g : Nat) (q : IntKind) (n : Nat) (h : n < 256) : (Instr.indexAt 110 (.pointer (some ⟨g, 0, none⟩)) (.int q (n : Int))).run Try.prog W = .ok (.pointer (some ⟨g, n, none⟩)) W := by
 have hu : Try.prog.underlying 110 = some (.array (Try.prog.arrayLen 110) (Try.prog.elem 110)) := by kernel_rfl
 have hl : Try.prog.arrayLen 110 = 256 := by kernel_rfl
 have he : Try.prog.elem 110 = 48 := by kernel_rfl
 obtain ⟨i0, hi, hz, hz1, _⟩ := info_parts (show (Try.prog.info? 48).map (fun i => (i.zero, i.size, i.bytes)) = some (some (.int .u32 0), 1, 4) by kernel_rfl)
 rw [run_indexAt_array (h := hu), hl, he, if_pos (by omega)]
 simp [sizeOf, typeInfo, hi, hz1, Result.andThen, Addr.add] <;> omega
set_option maxRecDepth 100000 in
set_option maxHeartbeats 4000000 in
theorem sum_table.calls (w : World) : Calls Try.prog 62 #[] w fun e w' => e = .returned (.agg (sum_vals sum_tab)) ∧ Below w.heap.size w w' := by
 have HB := Aside0.mk (Below.refl w.heap.size w)
 go_enter Try.func62, Try.ntmps62
 go_wp2_with (first | ((with_reducible refine gate_dst (N := 0) rfl ?_); refine box_event ?hg (N := 0) ?hd (cs := Array.replicate 256 (.int .u32 0)) (t := 110) ?hr ?_; (case hd => rfl); (case hg => rfl); (case hr => first | (go_simp; done) | (go_simp; rfl)); intro ga hg w0 hbox hb; have n0_ := Aside0.mk (below_step (by repeat (first | (with_reducible first | exact HB.out | apply below_alloc | apply pw_below_drewN | apply below_drew1) | exact HB.out)) hb); have n1_ := Aside0.mk hbox; have n2_ := Aside0.mk ((by rw [hg]; exact (below_size (by repeat (first | (with_reducible first | exact HB.out | apply below_alloc | apply pw_below_drewN | apply below_drew1) | exact HB.out))) : w.heap.size ≤ ga)); clear HB; have HB := n0_; have BA := n1_; have GA := n2_; clear n0_ n1_ n2_; clear hb hbox hg) | ((with_reducible refine gate_dst (N := 1) rfl ?_); refine box_event ?hg (N := 1) ?hd (cs := Array.replicate 256 (.int .u32 0)) (t := 110) ?hr ?_; (case hd => rfl); (case hg => rfl); (case hr => first | (go_simp; done) | (go_simp; rfl)); intro gb hg w1 hbox hb; have n0_ := Aside0.mk (below_step (by repeat (first | (with_reducible first | exact HB.out | apply below_alloc | apply pw_below_drewN | apply below_drew1) | exact HB.out)) hb); have n1_ := Aside0.mk hbox; have n2_ := Aside0.mk ((by rw [hg]; exact (below_size (by repeat (first | (with_reducible first | exact HB.out | apply below_alloc | apply pw_below_drewN | apply below_drew1) | exact HB.out))) : w.heap.size ≤ gb)); have n3_ := Aside0.mk (blk_below BA.out hb); have n4_ := Aside0.mk (show ga ≠ gb by rw [hg]; exact Nat.ne_of_lt (blk_lt BA.out)); clear HB BA; have HB := n0_; have BK := n1_; have GE := n2_; have BA := n3_; have NE := n4_; clear n0_ n1_ n2_ n3_ n4_; clear hb hbox hg))
 go_loopg [3] 257 (fun kq v3 w' => ∃ (j : Nat), v3 = .int .i64 (j : Int) ∧ Aside0 (j ≤ 256 ∧ kq + j = 257) ∧ Aside0 (w'.heap[gb]? = some (.cells (sum_vals (sum_part j)) 110 (0, 0))) ∧ Aside0 (w'.heap[ga]? = some (.cells (Array.replicate 256 (.int .u32 0)) 110 (0, 0))) ∧ Aside0 (Below w.heap.size w w'))
 case atStart => exact ⟨0, rfl, ⟨⟨by omega, rfl⟩⟩, ⟨by rw [sum_zero_vals]; exact BK.out⟩, BA, HB⟩
 case round =>
  clear HB BK BA
  obtain ⟨j, rfl, HX, BK, BA, HB⟩ := hrel
  by_cases c : j < 256
  ·
   have c1 : decide ((j : Int) < 256) = true := decide_eq_true (by omega)
   have hix : ∀ W : World, (Instr.indexAt 110 (.pointer (some ⟨gb, 0, none⟩)) (.int .i64 (j : Int))).run Try.prog W = .ok (.pointer (some ⟨gb, j, none⟩)) W := fun W => sum_index W gb .i64 j c
   have HC := Aside0.mk c
   clear c
   go_wp2_with fail
   refine (sum_step.calls _ (sum_stepN 8 (j : Int)) _ (by rw [show ((j : Int) % 4294967296) = j by have := HC.out; omega]; rfl)).mono ?_
   rintro e w2 ⟨rfl, hb⟩
   have n0_ := Aside0.mk (below_step (by repeat (first | (with_reducible first | exact HB.out | apply below_alloc | apply pw_below_drewN | apply below_drew1) | exact HB.out)) hb : Below w.heap.size w w2)
   have n1_ := Aside0.mk (blk_below BK.out hb)
   have n2_ := Aside0.mk (blk_below BA.out hb)
   clear HB BK BA hb
   have HB := n0_
   have BK := n1_
   have BA := n2_
   clear n0_ n1_ n2_
   obtain ⟨v, hv⟩ : ∃ v, w2.cell? ⟨gb, j, none⟩ = some v := by
    refine ⟨_, (blk_cell BK.out j).trans (Array.getElem?_eq_getElem ?_)⟩
    unfold sum_vals sum_part
    simp only [List.size_toArray, List.length_map, List.length_range]
    exact HC.out
   have hf := blk_frozen BK.out j
   go_wp2
   go_roundg (256 - j)
   case measure => have := HX.out; have := HC.out; omega
   case rel =>
    refine ⟨j + 1, ?_, ⟨by have := HX.out; have := HC.out; exact ⟨by omega, by omega⟩⟩, ⟨?_⟩, ⟨?_⟩, ⟨below_set HB.out GE.out⟩⟩
    ·
     have h1 := HC.out
     rw [show wrap64 ((j : Int) + 1) = ((j + 1 : Nat) : Int) by unfold wrap64; omega]
    ·
     exact blk_put BK.out j _ (sum_vals_set j HC.out)
    ·
     exact blk_far BA.out (by exact NE.out) _
  ·
   have c1 : decide ((j : Int) < 256) = false := decide_eq_false (by omega)
   obtain rfl : j = 256 := by have := HX.out; omega
   clear c
   have hu : Try.prog.underlying 110 = some (.array 256 48) := by kernel_rfl
   have hi : (Try.prog.info? 110).map (·.size) = some 256 := by kernel_rfl
   have hsz : (sum_vals sum_tab).size = 256 := by unfold sum_vals sum_tab; simp only [List.size_toArray, List.length_map, List.length_range]
   rw [sum_part_all] at BK
   have hrow := Aside0.mk (sum_there BA.out (by rw [Array.size_replicate]))
   go_wp2_with (first | ((with_reducible refine gate_dst (N := 12) rfl ?_); refine wpList_load_row rfl 110 (.tmp 1) rfl gb rfl 110 _ _ _ BK.out hu rfl (by rw [hsz]; exact hi) ?_) | (refine wpList_store_mid rfl 110 (.tmp 0) (.tmp 12) rfl ga 0 (sum_vals sum_tab) rfl rfl (by rw [hsz]; exact hrow.out) (by rw [hsz]; exact hi) sum_one ?_))
   have hBA : (wr.setCells ga 0 (sum_vals sum_tab).toList).heap[ga]? = some (.cells (sum_vals sum_tab) 110 (0, 0)) := set_all_heap (sum_vals sum_tab).toList [] (Array.replicate 256 (.int .u32 0)).toList wr (by exact BA.out) (by rw [Array.length_toList, Array.length_toList, hsz, Array.size_replicate])
   have hBB : Below w.heap.size w (wr.setCells ga 0 (sum_vals sum_tab).toList) := set_all_below GA.out _ _ _ HB.out
   exact bodyPost_ret (results_cell_row rfl _ _ ga 110 _ _ _ rfl hBA hu rfl (by rw [hsz]; exact hi)) rfl ⟨rfl, hBB⟩
def sum_turn (r b : Int) : Int := Go.bits .xor .u32 (sum_stepN 8 (Go.bits .xor .u8 (r % 256) b)) (r / 256)
def sum_More.f (a0 : Int) (a1 : ByteArray) : Option (Int) := if a1.size ≤ 9223372036854775806 then some (Go.bits .xor .u32 IntKind.u32.max ((bytesOf a1).foldl sum_turn (Go.bits .xor .u32 IntKind.u32.max a0))) else none
theorem sum_tab_at (n : Nat) (h : n < 256) : (sum_vals sum_tab)[n]? = some (.int .u32 (sum_stepN 8 (n : Int))) := by
 unfold sum_vals sum_tab
 simp only [List.map_map, List.getElem?_toArray, List.getElem?_map, List.getElem?_range h, Option.map_some, Function.comp]
set_option maxRecDepth 100000 in
set_option maxHeartbeats 4000000 in
theorem sum_More.calls (a0 : Int) (a1 : ByteArray) (r : Int) (w : World) (h : sum_More.f a0 a1 = some r) :
  Calls Try.prog 53 #[.int .u32 a0, .string a1] w fun e w' => e = .returned (.int .u32 r) ∧ Below w.heap.size w w' := by
 unfold sum_More.f at h
 by_cases hs : a1.size ≤ 9223372036854775806
 case neg => rw [if_neg hs] at h; cases h
 rw [if_pos hs] at h
 have HSZ := Aside0.mk hs
 clear hs
 have H := Aside0.mk (Option.some.inj h)
 clear h
 have HB := Aside0.mk (Below.refl w.heap.size w)
 have hi : (Try.prog.info? 110).map (·.size) = some 256 := by kernel_rfl
 have hsz : (sum_vals sum_tab).size = 256 := by unfold sum_vals sum_tab; simp only [List.size_toArray, List.length_map, List.length_range]
 obtain ⟨x0, hx0⟩ : ∃ x0, Go.bits .xor .u32 IntKind.u32.max a0 = x0 := ⟨_, rfl⟩
 rw [hx0] at H
 go_enter Try.func53, Try.ntmps53
 go_wp2_with fail
 refine (sum_table.calls _).mono ?_
 rintro e w1 ⟨rfl, hb⟩
 have n0_ := Aside0.mk (below_step (by repeat (first | (with_reducible first | exact HB.out | apply below_alloc | apply pw_below_drewN | apply below_drew1) | exact HB.out)) hb : Below w.heap.size w w1)
 clear HB hb
 have HB := n0_
 clear n0_
 go_wp2_with (first | ((with_reducible refine gate_dst (N := 5) rfl ?_); refine box_event ?hg (N := 5) ?hd (cs := Array.replicate 256 (.int .u32 0)) (t := 110) ?hr ?_; (case hd => rfl); (case hg => rfl); (case hr => first | (go_simp; done) | (go_simp; rfl)); intro gb hg w2 hbox hb; have n0_ := Aside0.mk (below_step (by repeat (first | (with_reducible first | exact HB.out | apply below_alloc | apply pw_below_drewN | apply below_drew1) | exact HB.out)) hb); have n1_ := Aside0.mk hbox; have n2_ := Aside0.mk ((by rw [hg]; exact (below_size (by repeat (first | (with_reducible first | exact HB.out | apply below_alloc | apply pw_below_drewN | apply below_drew1) | exact HB.out))) : w.heap.size ≤ gb)); have n3_ := Aside0.mk (sum_there hbox (by rw [Array.size_replicate])); clear HB; have HB := n0_; have BK := n1_; have GE := n2_; have HT := n3_; clear n0_ n1_ n2_ n3_; clear hb hbox hg) | (refine wpList_store_mid rfl 110 (.tmp 5) (.tmp 8) rfl gb 0 (sum_vals sum_tab) rfl rfl (by rw [hsz]; exact HT.out) (by rw [hsz]; exact hi) sum_one ?_; have hBK : (w2.setCells gb 0 (sum_vals sum_tab).toList).heap[gb]? = some (.cells (sum_vals sum_tab) 110 (0, 0)) := set_all_heap (sum_vals sum_tab).toList [] (Array.replicate 256 (.int .u32 0)).toList w2 (by exact BK.out) (by rw [Array.length_toList, Array.length_toList, hsz, Array.size_replicate]); have hBB : Below w.heap.size w (w2.setCells gb 0 (sum_vals sum_tab).toList) := set_all_below GE.out _ _ _ HB.out; generalize w2.setCells gb 0 (sum_vals sum_tab).toList = w3 at hBK hBB ⊢; clear BK HB HT; have BK := Aside0.mk hBK; have HB := Aside0.mk hBB; clear hBK hBB))
 go_loopg [6, 13] (a1.size + 1) (fun kq v6 v13 w' => ∃ (j : Nat), v6 = .int .u32 ((List.take j (bytesOf a1)).foldl sum_turn x0) ∧ v13 = .int .i64 (j : Int) ∧ Aside0 (j ≤ a1.size ∧ kq + j = a1.size + 1) ∧ Aside0 (w'.heap[gb]? = some (.cells (sum_vals sum_tab) 110 (0, 0))) ∧ Aside0 (Below w.heap.size w w'))
 case atStart => exact ⟨0, by rw [List.take_zero]; rfl, rfl, ⟨by omega, by omega⟩, BK, HB⟩
 case round =>
  clear HB BK
  obtain ⟨j, rfl, rfl, HX, BK, HB⟩ := hrel
  obtain ⟨x, hx⟩ : ∃ x, (List.take j (bytesOf a1)).foldl sum_turn x0 = x := ⟨_, rfl⟩
  rw [hx]
  have HXX := Aside0.mk hx
  clear hx
  by_cases c : j < a1.size
  ·
   have c0 : ((j : Int) < (a1.size : Int)) = True := eq_true (by omega)
   have c00 : (0 ≤ (j : Int)) = True := eq_true (by omega)
   have c1 : decide ((j : Int) < (a1.size : Int)) = true := decide_eq_true (by omega)
   have c2 : decide (j < a1.size) = true := decide_eq_true c
   have hbt : ∀ h : j < a1.size, ((a1[j]'h).toNat : Int) = bt a1 (j : Int) := bt_at a1 (j : Int)
   obtain ⟨b, hb⟩ : ∃ b, bt a1 (j : Int) = b := ⟨_, rfl⟩
   rw [hb] at hbt
   have hlo := (bits_within .xor .u8 (x % 256) b).1
   have hhi := (bits_within .xor .u8 (x % 256) b).2
   obtain ⟨n, hn⟩ : ∃ n : Nat, Go.bits .xor .u8 (x % 256) b = (n : Int) := Int.eq_ofNat_of_zero_le hlo
   have hn2 : n < 256 := by rw [hn] at hhi; have : ((n : Int) ≤ 255) := hhi; omega
   have hcl : wr.cell? ⟨gb, n, none⟩ = some (.int .u32 (sum_stepN 8 (n : Int))) := (blk_cell BK.out n).trans (sum_tab_at n hn2)
   have HN := Aside0.mk hn
   have HC := Aside0.mk c
   have HBT := Aside0.mk hb
   have hn2' : ((n : Int) < 256) = True := eq_true (by omega)
   clear c hlo hhi hn2 hb
   go_wp2
   go_roundg (a1.size - j)
   case measure => have := HX.out; have := HC.out; omega
   case rel =>
    refine ⟨j + 1, ?_, ?_, ⟨by have := HX.out; have := HC.out; omega, by have := HX.out; have := HC.out; omega⟩, BK, HB⟩
    ·
     have hlen : j < (bytesOf a1).length := by rw [bytesOf_length]; exact HC.out
     have e1 : (bytesOf a1)[j] = b := by
      rw [← HBT.out, ← rd_bytesOf]
      unfold rd
      simp [List.getD_eq_getElem?_getD, List.getElem?_eq_getElem hlen]
     rw [List.take_succ_eq_append_getElem hlen, List.foldl_append, HXX.out, e1]
     show _ = Value.int .u32 (sum_turn x b)
     unfold sum_turn
     rw [HN.out]
    ·
     have h1 := HC.out
     have h2 : a1.size ≤ 9223372036854775806 := HSZ.out
     rw [show wrap64 ((j : Int) + 1) = ((j + 1 : Nat) : Int) by unfold wrap64; omega]
  ·
   have c1 : decide ((j : Int) < (a1.size : Int)) = false := decide_eq_false (by omega)
   have c2 : decide (j < a1.size) = false := decide_eq_false c
   have HC := Aside0.mk c
   clear c
   go_wp2
   go_ret
   refine ⟨?_, by repeat (first | exact HB.out | apply below_alloc | apply pw_below_drewN | apply below_drew1)⟩
   have ej : j = a1.size := by have := HX.out; have := HC.out; omega
   rw [← H.out, ← HXX.out, ej, List.take_of_length_le (by rw [bytesOf_length]; exact Nat.le_refl _)]
   rfl


/-! ### sum_Table: function 41 -/
def sum_Table.f (a0 : ByteArray) : Option (Int) := (sum_More.f 0 a0).bind fun t132 => (some t132)
set_option maxHeartbeats 8000000 in
set_option maxRecDepth 100000 in
theorem sum_Table.calls (a0 : ByteArray) (r : Int) (w : World) (h : sum_Table.f a0 = some r) :
  Calls Try.prog 41 #[.string a0] w fun e w' => e = .returned (.int .u32 r) ∧ Below w.heap.size w w' := by
 have HB := Aside0.mk (Below.refl w.heap.size w)
 have H : ((sum_More.f 0 a0).bind fun t132 => (some t132)) = some r := h
 clear h
 replace H := Option.bind_eq_some_iff.mp H
 obtain ⟨t132, A20, H⟩ := H
 replace H : (some t132) = some r := H
 have A2 := Aside0.mk A20
 clear A20
 obtain rfl := Option.some.inj H
 go_enter Try.func41, Try.ntmps41
 go_wp2_with (first | ((with_reducible refine gate_callee (f := 53) rfl ?_); refine goesL_ (some 4) rfl rfl Try.func53 (by kernel_rfl) rfl #[.int .u32 0, .string a0] rfl (by (try simp only [List.map_toArray, List.map_cons, List.map_nil]); first | done | rfl | (simp only [List.length_drop, List.length_take]; rfl)) ?_; (with_reducible refine (sum_More.calls 0 a0 t132 _ A2.out).mono ?_); rintro e w3 ⟨rfl, hb⟩; refine ⟨_, rfl, ?_⟩; have n0_ := Aside0.mk (below_step (by repeat (first | (with_reducible first | exact HB.out | apply below_alloc | apply pw_below_drewN | apply below_drew1) | exact HB.out)) hb); clear HB; have HB := n0_; clear n0_; (try clear hb); (try clear hb2); (try clear hk); (try clear hi)))
 go_ret
 exact ⟨by first | rfl | (simp [errW_none, errW_some] <;> rfl) | (simp [*, errW_none, errW_some] <;> rfl), by repeat (first | (with_reducible first | exact HB.out | apply below_alloc | apply pw_below_drewN | apply below_drew1) | exact HB.out)⟩

end Go.Proofs.Ytnkndnpnjbcaoaa.P
