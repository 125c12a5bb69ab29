/- What is proved here: for functions of the Go text, a Lean function each, and that the call comes to just what it answers. Conditions: as each contract names them. Written by wip/tools/myprint.py, a driver of the print of the kit. -/
import Derived.Test.YtggfnlnonigkiaaGreatDoorP0
import Derived.Test.YtggfnlnonigkiaaGreatDoorP3
import Derived.Test.YtggfnlnonigkiaaGreatDoorP4
import Derived.Test.YtggfnlnonigkiaaGreatDoorWAbbr
namespace Go.Proofs.YtggfnlnonigkiaaGreatDoor.P
open Go.RowKit Go.Proofs.YtggfnlnonigkiaaGreatDoorW.PrintWords Go.Proofs.YtggfnlnonigkiaaGreatDoorW.PrintLast Go.Proofs.YtggfnlnonigkiaaGreatDoorW.PrintMore Go.Proofs.YtggfnlnonigkiaaGreatDoorW.Abbr
-- PACKED
attribute [local go_sem] max2_int min2_int max_two min_two max_three min_three max_four min_four Go.Proofs.YtggfnlnonigkiaaGreatDoorLaws.str_leq Go.Proofs.YtggfnlnonigkiaaGreatDoorLaws.str_gtr Go.Proofs.YtggfnlnonigkiaaGreatDoorLaws.str_geq Go.Proofs.YtggfnlnonigkiaaGreatDoorLaws.max2_str Go.Proofs.YtggfnlnonigkiaaGreatDoorLaws.min2_str   -- for this text's walks alone
set_option linter.unusedVariables false
set_option linter.unusedSimpArgs false

/-! ### sum_More: function 57, by hand -/
def sum_tab : List Int := (List.range 256).map fun i : Nat => sum_stepN 8 (i : Int)
def sum_part (i : Nat) : List Int := (List.range 256).map fun j : Nat => if j < i then sum_stepN 8 (j : Int) else 0
theorem sum_part_zero : sum_part 0 = List.replicate 256 0 := by
 unfold sum_part
 refine List.ext_getElem (by rw [List.length_map, List.length_range, List.length_replicate]) (fun n h1 h2 => ?_)
 rw [List.getElem_map, List.getElem_range, List.getElem_replicate, if_neg (Nat.not_lt_zero _)]
theorem sum_part_all : sum_part 256 = sum_tab := by
 unfold sum_part sum_tab
 refine List.map_congr_left (fun j hj => ?_)
 rw [if_pos (List.mem_range.1 hj)]
theorem sum_part_succ (i : Nat) (h : i < 256) : (sum_part i).set i (sum_stepN 8 (i : Int)) = sum_part (i + 1) := by
 unfold sum_part
 refine List.ext_getElem (by rw [List.length_set, List.length_map, List.length_map]) (fun n h1 h2 => ?_)
 rw [List.getElem_set]
 simp only [List.getElem_map, List.getElem_range]
 by_cases e : i = n
 ·subst e
  rw [if_pos rfl, if_pos (by omega)]
 rw [if_neg e]
 by_cases h3 : n < i
 rotate_left
 ·rw [if_neg h3, if_neg (by omega)]
 rw [if_pos h3, if_pos (by omega)]
def sum_vals (l : List Int) : Array Value := (l.map (Value.int .u32)).toArray
theorem sum_zero_vals : sum_vals (sum_part 0) = Array.replicate 256 (.int .u32 0) := by
 rw [sum_part_zero]
 unfold sum_vals
 rw [List.map_replicate]
 rfl
theorem sum_vals_set (i : Nat) (h : i < 256) : (sum_vals (sum_part i)).setIfInBounds i (.int .u32 (sum_stepN 8 (i : Int))) = sum_vals (sum_part (i + 1)) := by
 unfold sum_vals
 rw [← sum_part_succ i h]
 simp
theorem sum_there {w : World} {g n : Nat} {t : TypeId} {cs : Array Value} (h : w.heap[g]? = some (.cells cs t (0, 0))) (hn : cs.size = n) : w.there g 0 n := fun j hj => by
 rw [Nat.zero_add, blk_cell h j, Array.getElem?_eq_getElem (by omega)]
 exact ⟨rfl, blk_frozen h j⟩
theorem sum_one : (sum_vals sum_tab).all (·.oneCell') = true := by
 rw [Array.all_eq_true_iff_forall_mem]
 intro v hv
 unfold sum_vals at hv
 obtain ⟨x, _, rfl⟩ := List.mem_map.1 (by simpa using hv)
 rfl
theorem set_all_heap {g : Nat} {t : TypeId} : ∀ (vs pre cur : List Value) (w : World), w.heap[g]? = some (.cells (pre ++ cur).toArray t (0, 0)) → cur.length = vs.length → (w.setCells g pre.length vs).heap[g]? = some (.cells (pre ++ vs).toArray t (0, 0))
 | [], pre, cur, w, h, hl => by
  obtain rfl : cur = [] := List.length_eq_zero_iff.1 (by simpa using hl)
  exact h
 | v :: vs, pre, [], w, h, hl => by simp at hl
 | v :: vs, pre, c :: cur, w, h, hl => by
  have := set_all_heap vs (pre ++ [v]) cur (w.setCell ⟨g, pre.length, none⟩ v) (blk_put h pre.length v (by simp)) (by simpa using hl)
  rw [List.append_assoc, List.length_append] at this
  exact this
theorem set_all_below {g n : Nat} {w0 : World} (hg : n ≤ g) : ∀ (vs : List Value) (o : Nat) (w : World), Below n w0 w → Below n w0 (w.setCells g o vs)
 | [], _, _, h => h
 | v :: vs, o, w, h => set_all_below hg vs (o + 1) _ (h.setCell (p := ⟨g, o, none⟩) hg v)
theorem sum_index (W : World) (g : Nat) (q : IntKind) (n : Nat) (h : n < 256) : (Instr.indexAt 119 (.pointer (some ⟨g, 0, none⟩)) (.int q (n : Int))).run Tryz.prog W = .ok (.pointer (some ⟨g, n, none⟩)) W := by
 have hu : Tryz.prog.underlying 119 = some (.array (Tryz.prog.arrayLen 119) (Tryz.prog.elem 119)) := by kernel_rfl
 have hl : Tryz.prog.arrayLen 119 = 256 := by kernel_rfl
 have he : Tryz.prog.elem 119 = 67 := by kernel_rfl
 obtain ⟨i0, hi, hz, hz1, _⟩ := info_parts (show (Tryz.prog.info? 67).map (fun i => (i.zero, i.size, i.bytes)) = some (some (.int .u32 0), 1, 4) by kernel_rfl)
 rw [run_indexAt_array (h := hu), hl, he, if_pos (by omega)]
 simp [sizeOf, typeInfo, hi, hz1, Result.andThen, Addr.add] <;> omega
set_option maxRecDepth 100000 in
set_option maxHeartbeats 4000000 in
theorem sum_table.calls (w : World) : Calls Tryz.prog 73 #[] w fun e w' => e = .returned (.agg (sum_vals sum_tab)) ∧ Below w.heap.size w w' := by
 have HB := as_ (Below.refl w.heap.size w)
 go_enter Tryz.func73, Tryz.ntmps73
 go_wp2_with (first | ((with_reducible refine gate_dst (N := 0) rfl ?_); refine box_event ?hg (N := 0) ?hd (cs := Array.replicate 256 (.int .u32 0)) (t := 119) ?hr ?_; (case hd => rfl); (case hg => rfl); (case hr => first | (go_simp; done) | (go_simp; rfl)); intro ga hg w0 hbox hb; have BA := Aside0.mk hbox; have GA := gw hg bA; replace HB := as_ (below_step bA hb); clear hb hbox hg) | ((with_reducible refine gate_dst (N := 1) rfl ?_); refine box_event ?hg (N := 1) ?hd (cs := Array.replicate 256 (.int .u32 0)) (t := 119) ?hr ?_; (case hd => rfl); (case hg => rfl); (case hr => first | (go_simp; done) | (go_simp; rfl)); intro gb hg w1 hbox hb; have n0_ := as_ (below_step bA hb); have n1_ := Aside0.mk hbox; have n2_ := gw hg bA; have n3_ := as_ (blk_below BA.out hb); have n4_ := as_ (show ga ≠ gb by rw [hg]; exact Nat.ne_of_lt (blk_lt BA.out)); clear HB BA; have HB := n0_; have BK := n1_; have GE := n2_; have BA := n3_; have NE := n4_; clear n0_ n1_ n2_ n3_ n4_; clear hb hbox hg))
 go_loopg [3] 257 (fun kq v3 w' => ∃ (j : Nat), v3 = .int .i64 (j : Int) ∧ Aside0 (j ≤ 256 ∧ kq + j = 257) ∧ Aside0 (w'.heap[gb]? = some (.cells (sum_vals (sum_part j)) 119 (0, 0))) ∧ Aside0 (w'.heap[ga]? = some (.cells (Array.replicate 256 (.int .u32 0)) 119 (0, 0))) ∧ Aside0 (Below w.heap.size w w'))
 case atStart => exact ⟨0, rfl, ⟨⟨by omega, rfl⟩⟩, ⟨by rw [sum_zero_vals]; exact BK.out⟩, BA, HB⟩
 case round =>
  clear HB BK BA
  obtain ⟨j, rfl, HX, BK, BA, HB⟩ := hrel
  by_cases c : j < 256
  rotate_left
  ·have c1 : decide ((j : Int) < 256) = false := decide_eq_false (by omega)
   obtain rfl : j = 256 := by have := HX.out; omega
   clear c
   have hu : Tryz.prog.underlying 119 = some (.array 256 67) := by kernel_rfl
   have hi : (Tryz.prog.info? 119).map (·.size) = some 256 := by kernel_rfl
   have hsz : (sum_vals sum_tab).size = 256 := by unfold sum_vals sum_tab; simp only [List.size_toArray, List.length_map, List.length_range]
   rw [sum_part_all] at BK
   have hrow := as_ (sum_there BA.out (by rw [Array.size_replicate]))
   go_wp2_with (first | ((with_reducible refine gate_dst (N := 12) rfl ?_); refine wpList_load_row rfl 119 (.tmp 1) rfl gb rfl 119 _ _ _ BK.out hu rfl (by rw [hsz]; exact hi) ?_) | (refine wpList_store_mid rfl 119 (.tmp 0) (.tmp 12) rfl ga 0 (sum_vals sum_tab) rfl rfl (by rw [hsz]; exact hrow.out) (by rw [hsz]; exact hi) sum_one ?_))
   have hBA : (wr.setCells ga 0 (sum_vals sum_tab).toList).heap[ga]? = some (.cells (sum_vals sum_tab) 119 (0, 0)) := set_all_heap (sum_vals sum_tab).toList [] (Array.replicate 256 (.int .u32 0)).toList wr (by exact BA.out) (by rw [Array.length_toList, Array.length_toList, hsz, Array.size_replicate])
   have hBB : Below w.heap.size w (wr.setCells ga 0 (sum_vals sum_tab).toList) := set_all_below GA.out _ _ _ HB.out
   exact bodyPost_ret (results_cell_row rfl _ _ ga 119 _ _ _ rfl hBA hu rfl (by rw [hsz]; exact hi)) rfl ⟨rfl, hBB⟩
  have c1 : decide ((j : Int) < 256) = true := decide_eq_true (by omega)
  have hix : ∀ W : World, (Instr.indexAt 119 (.pointer (some ⟨gb, 0, none⟩)) (.int .i64 (j : Int))).run Tryz.prog W = .ok (.pointer (some ⟨gb, j, none⟩)) W := fun W => sum_index W gb .i64 j c
  have HC := Aside0.mk c
  clear c
  go_wp2_with fail
  refine (sum_step.calls _ (sum_stepN 8 (j : Int)) _ (by rw [show ((j : Int) % 4294967296) = j by have := HC.out; omega]; rfl)).mono ?_
  rintro e w2 ⟨rfl, hb⟩
  have n0_ := as_ (below_step bA hb : Below w.heap.size w w2)
  have n1_ := as_ (blk_below BK.out hb)
  have n2_ := as_ (blk_below BA.out hb)
  clear HB BK BA hb
  have HB := n0_
  have BK := n1_
  have BA := n2_
  clear n0_ n1_ n2_
  obtain ⟨v, hv⟩ : ∃ v, w2.cell? ⟨gb, j, none⟩ = some v := by
   refine ⟨_, (blk_cell BK.out j).trans (Array.getElem?_eq_getElem ?_)⟩
   unfold sum_vals sum_part
   simp only [List.size_toArray, List.length_map, List.length_range]
   exact HC.out
  have hf := blk_frozen BK.out j
  go_wp2
  go_roundg (256 - j)
  case measure => have := HX.out; have := HC.out; omega
  case rel =>
   refine ⟨j + 1, ?_, ⟨by have := HX.out; have := HC.out; exact ⟨by omega, by omega⟩⟩, ⟨?_⟩, ⟨?_⟩, ⟨below_set HB.out GE.out⟩⟩
   ·have h1 := HC.out
    rw [show wrap64 ((j : Int) + 1) = ((j + 1 : Nat) : Int) by unfold wrap64; omega]
   ·exact blk_put BK.out j _ (sum_vals_set j HC.out)
   ·exact blk_far BA.out (by exact NE.out) _
def sum_turn (r b : Int) : Int := Go.bits .xor .u32 (sum_stepN 8 (Go.bits .xor .u8 (r % 256) b)) (r / 256)
def sum_More.f (a0 : Int) (a1 : ByteArray) : Option (Int) := if a1.size ≤ 9223372036854775806 then some (Go.bits .xor .u32 IntKind.u32.max ((bytesOf a1).foldl sum_turn (Go.bits .xor .u32 IntKind.u32.max a0))) else none
theorem sum_tab_at (n : Nat) (h : n < 256) : (sum_vals sum_tab)[n]? = some (.int .u32 (sum_stepN 8 (n : Int))) := by
 unfold sum_vals sum_tab
 simp only [List.map_map, List.getElem?_toArray, List.getElem?_map, List.getElem?_range h, Option.map_some, Function.comp]
set_option maxRecDepth 100000 in
set_option maxHeartbeats 4000000 in
theorem sum_More.calls (a0 : Int) (a1 : ByteArray) (r : Int) (w : World) (h : sum_More.f a0 a1 = some r) :
  Calls Tryz.prog 57 #[.int .u32 a0, .string a1] w fun e w' => e = .returned (.int .u32 r) ∧ Below w.heap.size w w' := by
 unfold sum_More.f at h
 by_cases hs : a1.size ≤ 9223372036854775806
 case neg => rw [if_neg hs] at h; cases h
 rw [if_pos hs] at h
 have HSZ := Aside0.mk hs
 clear hs
 have H := as_ (Option.some.inj h)
 clear h
 have HB := as_ (Below.refl w.heap.size w)
 have hi : (Tryz.prog.info? 119).map (·.size) = some 256 := by kernel_rfl
 have hsz : (sum_vals sum_tab).size = 256 := by unfold sum_vals sum_tab; simp only [List.size_toArray, List.length_map, List.length_range]
 obtain ⟨x0, hx0⟩ : ∃ x0, Go.bits .xor .u32 IntKind.u32.max a0 = x0 := ⟨_, rfl⟩
 rw [hx0] at H
 go_enter Tryz.func57, Tryz.ntmps57
 go_wp2_with fail
 refine (sum_table.calls _).mono ?_
 rintro e w1 ⟨rfl, hb⟩
 have n0_ := as_ (below_step bA hb : Below w.heap.size w w1)
 clear HB hb
 have HB := n0_
 clear n0_
 go_wp2_with (first | ((with_reducible refine gate_dst (N := 5) rfl ?_); refine box_event ?hg (N := 5) ?hd (cs := Array.replicate 256 (.int .u32 0)) (t := 119) ?hr ?_; (case hd => rfl); (case hg => rfl); (case hr => first | (go_simp; done) | (go_simp; rfl)); intro gb hg w2 hbox hb; have BK := Aside0.mk hbox; have GE := gw hg bA; have HT := as_ (sum_there hbox (by rw [Array.size_replicate])); replace HB := as_ (below_step bA hb); clear hb hbox hg) | (refine wpList_store_mid rfl 119 (.tmp 5) (.tmp 8) rfl gb 0 (sum_vals sum_tab) rfl rfl (by rw [hsz]; exact HT.out) (by rw [hsz]; exact hi) sum_one ?_; have hBK : (w2.setCells gb 0 (sum_vals sum_tab).toList).heap[gb]? = some (.cells (sum_vals sum_tab) 119 (0, 0)) := set_all_heap (sum_vals sum_tab).toList [] (Array.replicate 256 (.int .u32 0)).toList w2 (by exact BK.out) (by rw [Array.length_toList, Array.length_toList, hsz, Array.size_replicate]); have hBB : Below w.heap.size w (w2.setCells gb 0 (sum_vals sum_tab).toList) := set_all_below GE.out _ _ _ HB.out; generalize w2.setCells gb 0 (sum_vals sum_tab).toList = w3 at hBK hBB ⊢; clear BK HB HT; have BK := Aside0.mk hBK; have HB := Aside0.mk hBB; clear hBK hBB))
 go_loopg [6, 13] (a1.size + 1) (fun kq v6 v13 w' => ∃ (j : Nat), v6 = .int .u32 ((List.take j (bytesOf a1)).foldl sum_turn x0) ∧ v13 = .int .i64 (j : Int) ∧ Aside0 (j ≤ a1.size ∧ kq + j = a1.size + 1) ∧ Aside0 (w'.heap[gb]? = some (.cells (sum_vals sum_tab) 119 (0, 0))) ∧ Aside0 (Below w.heap.size w w'))
 case atStart => exact ⟨0, by rw [List.take_zero]; rfl, rfl, ⟨by omega, by omega⟩, BK, HB⟩
 case round =>
  clear HB BK
  obtain ⟨j, rfl, rfl, HX, BK, HB⟩ := hrel
  obtain ⟨x, hx⟩ : ∃ x, (List.take j (bytesOf a1)).foldl sum_turn x0 = x := ⟨_, rfl⟩
  rw [hx]
  have HXX := Aside0.mk hx
  clear hx
  by_cases c : j < a1.size
  rotate_left
  ·have c1 : decide ((j : Int) < (a1.size : Int)) = false := decide_eq_false (by omega)
   have c2 : decide (j < a1.size) = false := decide_eq_false c
   have HC := Aside0.mk c
   clear c
   go_wp2
   go_ret
   refine ⟨?_, by repeat (first | exact HB.out | apply below_alloc | apply pw_below_drewN | apply below_drew1)⟩
   have ej : j = a1.size := by have := HX.out; have := HC.out; omega
   rw [← H.out, ← HXX.out, ej, List.take_of_length_le (by rw [bytesOf_length]; exact Nat.le_refl _)]
   rfl
 
 
  have c0 : ((j : Int) < (a1.size : Int)) = True := eq_true (by omega)
  have c00 : (0 ≤ (j : Int)) = True := eq_true (by omega)
  have c1 : decide ((j : Int) < (a1.size : Int)) = true := decide_eq_true (by omega)
  have c2 : decide (j < a1.size) = true := decide_eq_true c
  have hbt : ∀ h : j < a1.size, ((a1[j]'h).toNat : Int) = bt a1 (j : Int) := bt_at a1 (j : Int)
  obtain ⟨b, hb⟩ : ∃ b, bt a1 (j : Int) = b := ⟨_, rfl⟩
  rw [hb] at hbt
  have hlo := (bits_within .xor .u8 (x % 256) b).1
  have hhi := (bits_within .xor .u8 (x % 256) b).2
  obtain ⟨n, hn⟩ : ∃ n : Nat, Go.bits .xor .u8 (x % 256) b = (n : Int) := Int.eq_ofNat_of_zero_le hlo
  have hn2 : n < 256 := by rw [hn] at hhi; have : ((n : Int) ≤ 255) := hhi; omega
  have hcl : wr.cell? ⟨gb, n, none⟩ = some (.int .u32 (sum_stepN 8 (n : Int))) := (blk_cell BK.out n).trans (sum_tab_at n hn2)
  have HN := Aside0.mk hn
  have HC := Aside0.mk c
  have HBT := Aside0.mk hb
  have hn2' : ((n : Int) < 256) = True := eq_true (by omega)
  clear c hlo hhi hn2 hb
  go_wp2
  go_roundg (a1.size - j)
  case measure => have := HX.out; have := HC.out; omega
  case rel =>
   refine ⟨j + 1, ?_, ?_, ⟨by have := HX.out; have := HC.out; omega, by have := HX.out; have := HC.out; omega⟩, BK, HB⟩
   ·have hlen : j < (bytesOf a1).length := by rw [bytesOf_length]; exact HC.out
    have e1 : (bytesOf a1)[j] = b := by
     rw [← HBT.out, ← rd_bytesOf]
     unfold rd
     simp [List.getD_eq_getElem?_getD, List.getElem?_eq_getElem hlen]
    rw [List.take_succ_eq_append_getElem hlen, List.foldl_append, HXX.out, e1]
    show _ = Value.int .u32 (sum_turn x b)
    unfold sum_turn
    rw [HN.out]
   ·have h1 := HC.out
    have h2 : a1.size ≤ 9223372036854775806 := HSZ.out
    rw [show wrap64 ((j : Int) + 1) = ((j + 1 : Nat) : Int) by unfold wrap64; omega]
/-! ### sum_Table: function 34 -/
def sum_Table.f (a0 : ByteArray) : Option (Int) := (sum_More.f 0 a0).bind fun t136 => (some t136)
set_option maxHeartbeats 8000000 in
set_option maxRecDepth 100000 in
theorem sum_Table.calls (a0 : ByteArray) (r : Int) (w : World) (h : sum_Table.f a0 = some r) :
  Calls Tryz.prog 34 #[.string a0] w fun e w' => e = .returned (.int .u32 r) ∧ Below w.heap.size w w' := by
 have HB := as_ (Below.refl w.heap.size w)
 have H : ((sum_More.f 0 a0).bind fun t136 => (some t136)) = some r := h
 clear h
 replace H := bM H
 obtain ⟨t136, A20, H⟩ := H
 replace H : (some t136) = some r := H
 have A2 := Aside0.mk A20
 clear A20
 obtain rfl := Option.some.inj H
 go_enter Tryz.func34, Tryz.ntmps34
 go_wp2_with (first | ((with_reducible refine gate_callee (f := 57) rfl ?_); refine goesL_ (some 4) rfl rfl Tryz.func57 (by kernel_rfl) rfl #[.int .u32 0, .string a0] rfl aO ?_; (with_reducible refine (sum_More.calls 0 a0 t136 _ A2.out).mono ?_); rintro e w3 ⟨rfl, hb⟩; refine ⟨_, rfl, ?_⟩; replace HB := as_ (below_step bA hb); (try clear hb); (try clear hb2); (try clear hk); (try clear hi)))
 go_ret
 exact ⟨eW, by repeat (first | (with_reducible first | exact HB.out | apply below_alloc | apply pw_below_drewN | apply below_drew1) | exact HB.out)⟩

/-! ### head_Seal: function 20 -/
def head_Seal.f (k : Nat) (a0_0 : Int) (a0_1 : Int) (a0_2 : Int) (a0_3 : Int) (a0_4 : Int) (a1 : ByteArray) (a2 : Int) : Option (ByteArray × Int) := (head_may.f a0_0 a0_1 a0_2 a0_3 a0_4 a1 a2).bind fun t138 => (if t138 = 0 then ((head_bytes.f k (([a0_0, a0_1, a0_2, wrap64 (Int.tdiv a0_2 256)] : List Int))).bind fun t142 => ((word_Four.f ((a0_3) % 4294967296)).bind fun t143 => (if t142.size + t143.size ≤ 9223372036854775807 then ((word_Four.f ((a0_4) % 4294967296)).bind fun t144 => (if (t142 ++ t143).size + t144.size ≤ 9223372036854775807 then (if ((t142 ++ t143) ++ t144).size + 4 ≤ 9223372036854775807 then (if (((t142 ++ t143) ++ t144) ++ (⟨#[0, 0, 0, 0]⟩ : ByteArray)).size + a1.size ≤ 9223372036854775807 then ((strings_Repeat.f (⟨#[0]⟩ : ByteArray) (wrap64 (a2 - (((((t142 ++ t143) ++ t144) ++ (⟨#[0, 0, 0, 0]⟩ : ByteArray)) ++ a1).size : Int)))).bind fun t145 => (if ((((t142 ++ t143) ++ t144) ++ (⟨#[0, 0, 0, 0]⟩ : ByteArray)) ++ a1).size + t145.size ≤ 9223372036854775807 then (if 0 ≤ 12 then (if 12 ≤ ((((((t142 ++ t143) ++ t144) ++ (⟨#[0, 0, 0, 0]⟩ : ByteArray)) ++ a1) ++ t145).size : Int) then ((sum_Table.f (((((t142 ++ t143) ++ t144) ++ (⟨#[0, 0, 0, 0]⟩ : ByteArray)) ++ a1) ++ t145)).bind fun t146 => ((word_Four.f t146).bind fun t147 => (if ((((((t142 ++ t143) ++ t144) ++ (⟨#[0, 0, 0, 0]⟩ : ByteArray)) ++ a1) ++ t145).extract 0 12).size + t147.size ≤ 9223372036854775807 then (if 16 ≤ ((((((t142 ++ t143) ++ t144) ++ (⟨#[0, 0, 0, 0]⟩ : ByteArray)) ++ a1) ++ t145).size : Int) then (if (((((((t142 ++ t143) ++ t144) ++ (⟨#[0, 0, 0, 0]⟩ : ByteArray)) ++ a1) ++ t145).extract 0 12) ++ t147).size + ((((((t142 ++ t143) ++ t144) ++ (⟨#[0, 0, 0, 0]⟩ : ByteArray)) ++ a1) ++ t145).extract 16 (((((t142 ++ t143) ++ t144) ++ (⟨#[0, 0, 0, 0]⟩ : ByteArray)) ++ a1) ++ t145).size).size ≤ 9223372036854775807 then (some ((((((((t142 ++ t143) ++ t144) ++ (⟨#[0, 0, 0, 0]⟩ : ByteArray)) ++ a1) ++ t145).extract 0 12) ++ t147) ++ ((((((t142 ++ t143) ++ t144) ++ (⟨#[0, 0, 0, 0]⟩ : ByteArray)) ++ a1) ++ t145).extract 16 (((((t142 ++ t143) ++ t144) ++ (⟨#[0, 0, 0, 0]⟩ : ByteArray)) ++ a1) ++ t145).size), 0)) else (none)) else (none)) else (none)))) else (none)) else (none)) else (none))) else (none)) else (none)) else (none))) else (none)))) else (some ((⟨#[]⟩ : ByteArray), t138)))
theorem head_Seal.mono : ∀ a0 a1 a2 a3 a4 a5 a6 k, LeO (head_Seal.f k a0 a1 a2 a3 a4 a5 a6) (head_Seal.f (k + 1) a0 a1 a2 a3 a4 a5 a6) := by
 intro a0 a1 a2 a3 a4 a5 a6 k
 unfold head_Seal.f
 repeat' first
   | (with_reducible exact head_bytes.mono _ _)
   | (with_reducible exact LeO.refl _)
   | (with_reducible exact LeO.none _)
   | (with_reducible refine LeO.ite ?_ ?_)
   | (with_reducible refine LeO.bind ?_ (fun _ => ?_))
   | exact head_bytes.mono _ _
   | exact LeO.none _
   | refine LeO.ite ?_ ?_
   | refine LeO.bind ?_ (fun _ => ?_)
def head_Seal.T4 : Bool × List (List Nat × List Nat) := (true, [([], []), ([0], [0]), ([], []), ([2], [2]), ([], []), ([4], [4]), ([], []), ([6], [6]), ([7], [7]), ([1, 3, 5, 8], [1, 3, 5, 8]), ([9], [9]), ([], []), ([11], [11]), ([12], [12]), ([13, 10], [13]), ([10, 14], [10, 14]), ([], []), ([16], [16]), ([17], [17]), ([18, 14], [18]), ([15, 19], [15, 19]), ([20], [20]), ([], []), ([21, 22], [21, 22]), ([23, 19, 0, 1, 2, 3, 4, 5, 6, 7, 8, 9, 10, 11, 12, 13, 14, 15, 16, 17, 18, 19, 20, 21, 22, 23], [23])])
def head_Seal.B4 : List Nat := [0, 1, 0, 4, 0, 16, 0, 64, 192, 511, 1023, 0, 2048, 6144, 16383, 32767, 0, 65536, 196608, 491519, 1048575, 2097151, 0, 8388607, 16777215]
theorem head_Seal.tab4 : rtab .any (opsOf Tryz.f20 4) = head_Seal.T4 := by kernel_rfl
theorem head_Seal.bits4 : waitsOk head_Seal.T4.2 head_Seal.B4 = true := by kernel_rfl
def head_Seal.T6 : Bool × List (List Nat × List Nat) := (true, [([], []), ([0], [0]), ([], []), ([2], [2]), ([3, 3], [3]), ([1, 4], [1, 4]), ([], []), ([6], [6]), ([5, 7], [5, 7]), ([8, 4, 0, 1, 2, 3, 4, 5, 6, 7, 8], [8]), ([9, 0, 1, 2, 3, 4, 5, 6, 7, 8, 9], [])])
def head_Seal.B6 : List Nat := [0, 1, 0, 4, 12, 31, 0, 64, 255, 511, 1023]
theorem head_Seal.tab6 : rtab .any (opsOf Tryz.f20 6) = head_Seal.T6 := by kernel_rfl
theorem head_Seal.bits6 : waitsOk head_Seal.T6.2 head_Seal.B6 = true := by kernel_rfl
set_option maxHeartbeats 8000000 in
set_option maxRecDepth 100000 in
theorem head_Seal.calls (k : Nat) (a0_0 : Int) (a0_1 : Int) (a0_2 : Int) (a0_3 : Int) (a0_4 : Int) (a1 : ByteArray) (a2 : Int) (r1 : ByteArray) (r2 : Int) (w : World) (h : head_Seal.f k a0_0 a0_1 a0_2 a0_3 a0_4 a1 a2 = some (r1, r2)) :
  Calls Tryz.prog 20 #[.agg #[.int .i64 a0_0, .int .i64 a0_1, .int .i64 a0_2, .int .i64 a0_3, .int .i64 a0_4], .string a1, .int .i64 a2] w fun e w' => e = .returned (.tuple #[.string r1, .int .i64 r2]) ∧ Below w.heap.size w w' := by
 have hu48 := Tryz.underlying48
 have HB := as_ (Below.refl w.heap.size w)
 have H : ((head_may.f a0_0 a0_1 a0_2 a0_3 a0_4 a1 a2).bind fun t138 => (if t138 = 0 then ((head_bytes.f k (([a0_0, a0_1, a0_2, wrap64 (Int.tdiv a0_2 256)] : List Int))).bind fun t142 => ((word_Four.f ((a0_3) % 4294967296)).bind fun t143 => (if t142.size + t143.size ≤ 9223372036854775807 then ((word_Four.f ((a0_4) % 4294967296)).bind fun t144 => (if (t142 ++ t143).size + t144.size ≤ 9223372036854775807 then (if ((t142 ++ t143) ++ t144).size + 4 ≤ 9223372036854775807 then (if (((t142 ++ t143) ++ t144) ++ (⟨#[0, 0, 0, 0]⟩ : ByteArray)).size + a1.size ≤ 9223372036854775807 then ((strings_Repeat.f (⟨#[0]⟩ : ByteArray) (wrap64 (a2 - (((((t142 ++ t143) ++ t144) ++ (⟨#[0, 0, 0, 0]⟩ : ByteArray)) ++ a1).size : Int)))).bind fun t145 => (if ((((t142 ++ t143) ++ t144) ++ (⟨#[0, 0, 0, 0]⟩ : ByteArray)) ++ a1).size + t145.size ≤ 9223372036854775807 then (if 0 ≤ 12 then (if 12 ≤ ((((((t142 ++ t143) ++ t144) ++ (⟨#[0, 0, 0, 0]⟩ : ByteArray)) ++ a1) ++ t145).size : Int) then ((sum_Table.f (((((t142 ++ t143) ++ t144) ++ (⟨#[0, 0, 0, 0]⟩ : ByteArray)) ++ a1) ++ t145)).bind fun t146 => ((word_Four.f t146).bind fun t147 => (if ((((((t142 ++ t143) ++ t144) ++ (⟨#[0, 0, 0, 0]⟩ : ByteArray)) ++ a1) ++ t145).extract 0 12).size + t147.size ≤ 9223372036854775807 then (if 16 ≤ ((((((t142 ++ t143) ++ t144) ++ (⟨#[0, 0, 0, 0]⟩ : ByteArray)) ++ a1) ++ t145).size : Int) then (if (((((((t142 ++ t143) ++ t144) ++ (⟨#[0, 0, 0, 0]⟩ : ByteArray)) ++ a1) ++ t145).extract 0 12) ++ t147).size + ((((((t142 ++ t143) ++ t144) ++ (⟨#[0, 0, 0, 0]⟩ : ByteArray)) ++ a1) ++ t145).extract 16 (((((t142 ++ t143) ++ t144) ++ (⟨#[0, 0, 0, 0]⟩ : ByteArray)) ++ a1) ++ t145).size).size ≤ 9223372036854775807 then (some ((((((((t142 ++ t143) ++ t144) ++ (⟨#[0, 0, 0, 0]⟩ : ByteArray)) ++ a1) ++ t145).extract 0 12) ++ t147) ++ ((((((t142 ++ t143) ++ t144) ++ (⟨#[0, 0, 0, 0]⟩ : ByteArray)) ++ a1) ++ t145).extract 16 (((((t142 ++ t143) ++ t144) ++ (⟨#[0, 0, 0, 0]⟩ : ByteArray)) ++ a1) ++ t145).size), 0)) else (none)) else (none)) else (none)))) else (none)) else (none)) else (none))) else (none)) else (none)) else (none))) else (none)))) else (some ((⟨#[]⟩ : ByteArray), t138)))) = some (r1, r2) := h
 clear h
 replace H := bM H
 obtain ⟨t138, A40, H⟩ := H
 replace H : (if t138 = 0 then ((head_bytes.f k (([a0_0, a0_1, a0_2, wrap64 (Int.tdiv a0_2 256)] : List Int))).bind fun t142 => ((word_Four.f ((a0_3) % 4294967296)).bind fun t143 => (if t142.size + t143.size ≤ 9223372036854775807 then ((word_Four.f ((a0_4) % 4294967296)).bind fun t144 => (if (t142 ++ t143).size + t144.size ≤ 9223372036854775807 then (if ((t142 ++ t143) ++ t144).size + 4 ≤ 9223372036854775807 then (if (((t142 ++ t143) ++ t144) ++ (⟨#[0, 0, 0, 0]⟩ : ByteArray)).size + a1.size ≤ 9223372036854775807 then ((strings_Repeat.f (⟨#[0]⟩ : ByteArray) (wrap64 (a2 - (((((t142 ++ t143) ++ t144) ++ (⟨#[0, 0, 0, 0]⟩ : ByteArray)) ++ a1).size : Int)))).bind fun t145 => (if ((((t142 ++ t143) ++ t144) ++ (⟨#[0, 0, 0, 0]⟩ : ByteArray)) ++ a1).size + t145.size ≤ 9223372036854775807 then (if 0 ≤ 12 then (if 12 ≤ ((((((t142 ++ t143) ++ t144) ++ (⟨#[0, 0, 0, 0]⟩ : ByteArray)) ++ a1) ++ t145).size : Int) then ((sum_Table.f (((((t142 ++ t143) ++ t144) ++ (⟨#[0, 0, 0, 0]⟩ : ByteArray)) ++ a1) ++ t145)).bind fun t146 => ((word_Four.f t146).bind fun t147 => (if ((((((t142 ++ t143) ++ t144) ++ (⟨#[0, 0, 0, 0]⟩ : ByteArray)) ++ a1) ++ t145).extract 0 12).size + t147.size ≤ 9223372036854775807 then (if 16 ≤ ((((((t142 ++ t143) ++ t144) ++ (⟨#[0, 0, 0, 0]⟩ : ByteArray)) ++ a1) ++ t145).size : Int) then (if (((((((t142 ++ t143) ++ t144) ++ (⟨#[0, 0, 0, 0]⟩ : ByteArray)) ++ a1) ++ t145).extract 0 12) ++ t147).size + ((((((t142 ++ t143) ++ t144) ++ (⟨#[0, 0, 0, 0]⟩ : ByteArray)) ++ a1) ++ t145).extract 16 (((((t142 ++ t143) ++ t144) ++ (⟨#[0, 0, 0, 0]⟩ : ByteArray)) ++ a1) ++ t145).size).size ≤ 9223372036854775807 then (some ((((((((t142 ++ t143) ++ t144) ++ (⟨#[0, 0, 0, 0]⟩ : ByteArray)) ++ a1) ++ t145).extract 0 12) ++ t147) ++ ((((((t142 ++ t143) ++ t144) ++ (⟨#[0, 0, 0, 0]⟩ : ByteArray)) ++ a1) ++ t145).extract 16 (((((t142 ++ t143) ++ t144) ++ (⟨#[0, 0, 0, 0]⟩ : ByteArray)) ++ a1) ++ t145).size), 0)) else (none)) else (none)) else (none)))) else (none)) else (none)) else (none))) else (none)) else (none)) else (none))) else (none)))) else (some ((⟨#[]⟩ : ByteArray), t138))) = some (r1, r2) := H
 have A4 := Aside0.mk A40
 clear A40
 by_cases c5 : t138 = 0
 rotate_left
 ·rw [if_neg c5] at H
  have c5b0 : (t138 == 0) = false := beq_eq_false_iff_ne.mpr c5
  have c5b1 : (t138 != 0) = true := bne_iff_ne.mpr c5
  simp only [Option.some.injEq, Prod.mk.injEq] at H
  obtain ⟨rfl, rfl⟩ := H
  go_enter Tryz.func20, Tryz.ntmps20
  go_wp2_with (first | ((with_reducible refine gate_dst (N := 3) rfl ?_); refine box_event (by rfl) (N := 3) (by rfl) (cs := #[.int .i64 a0_0, .int .i64 a0_1, .int .i64 a0_2, .int .i64 a0_3, .int .i64 a0_4]) (t := 48) gS ?_; intro gb137 hg w45 hbox hb; have BK137 := as_ (hbox); have GW137 := gw hg bA; have GE137 := gw hg bA; replace HB := as_ (below_step bA hb); clear hb hbox hg; obtain ⟨hcz46_0, hcz46_1, hcz46_2, hcz46_3, hcz46_4⟩ := zc5 BK137; obtain ⟨hfz46_0, hfz46_1, hfz46_2, hfz46_3, hfz46_4⟩ := zf5 BK137) | ((with_reducible refine gate_callee (f := 30) rfl ?_); refine goesL_ (some 13) rfl rfl Tryz.func30 (by kernel_rfl) rfl #[.agg #[.int .i64 a0_0, .int .i64 a0_1, .int .i64 a0_2, .int .i64 a0_3, .int .i64 a0_4], .string a1, .int .i64 a2] rfl aO ?_; (with_reducible refine (head_may.calls a0_0 a0_1 a0_2 a0_3 a0_4 a1 a2 t138 _ A4.out).mono ?_); rintro e w47 ⟨evw47, rfl, her_, hec_, hb⟩; have HER := Aside0.mk her_; have HEC := Aside0.mk hec_; clear her_ hec_; refine ⟨_, rfl, ?_⟩; replace BK137 := bb BK137 hb; replace HB := as_ (below_step bA hb); (try clear hb); (try clear hb2); (try clear hk); (try clear hi)) | ((with_reducible refine gate_callee (f := 29) rfl ?_); refine goesL_ (some 14) rfl rfl Tryz.func29 (by kernel_rfl) rfl #[evw47] rfl (by (try simp only [List.map_toArray, List.map_cons, List.map_nil]); first | done | rfl) ?_; (with_reducible refine (head_may.calls2 evw47 t138 HEC.out _ HER.out).mono ?_); rintro e w47b ⟨rfl, hb⟩; refine ⟨_, rfl, ?_⟩; replace BK137 := bb BK137 hb; replace HB := as_ (below_step bA hb); (try clear hb); (try clear hb2); (try clear hk); (try clear hi)))
  go_ret2
  exact ⟨eW, by repeat (first | (with_reducible first | exact HB.out | apply below_alloc | apply pw_below_drewN | apply below_drew1 | refine below_set ?_ GE137.out) | exact HB.out)⟩
 
 rw [if_pos c5] at H
 have c5b0 : (t138 == 0) = true := beq_iff_eq.mpr c5
 have c5b1 : (t138 != 0) = false := bne_eq_false_iff_eq.mpr c5
 clear c5
 obtain ⟨y139, hy139⟩ : ∃ y_ : List Int, y_ = (([a0_0, a0_1, a0_2, wrap64 (Int.tdiv a0_2 256)] : List Int)) := ⟨_, rfl⟩
 replace H : ((head_bytes.f k y139).bind fun t142 => ((word_Four.f ((a0_3) % 4294967296)).bind fun t143 => (if t142.size + t143.size ≤ 9223372036854775807 then ((word_Four.f ((a0_4) % 4294967296)).bind fun t144 => (if (t142 ++ t143).size + t144.size ≤ 9223372036854775807 then (if ((t142 ++ t143) ++ t144).size + 4 ≤ 9223372036854775807 then (if (((t142 ++ t143) ++ t144) ++ (⟨#[0, 0, 0, 0]⟩ : ByteArray)).size + a1.size ≤ 9223372036854775807 then ((strings_Repeat.f (⟨#[0]⟩ : ByteArray) (wrap64 (a2 - (((((t142 ++ t143) ++ t144) ++ (⟨#[0, 0, 0, 0]⟩ : ByteArray)) ++ a1).size : Int)))).bind fun t145 => (if ((((t142 ++ t143) ++ t144) ++ (⟨#[0, 0, 0, 0]⟩ : ByteArray)) ++ a1).size + t145.size ≤ 9223372036854775807 then (if 0 ≤ 12 then (if 12 ≤ ((((((t142 ++ t143) ++ t144) ++ (⟨#[0, 0, 0, 0]⟩ : ByteArray)) ++ a1) ++ t145).size : Int) then ((sum_Table.f (((((t142 ++ t143) ++ t144) ++ (⟨#[0, 0, 0, 0]⟩ : ByteArray)) ++ a1) ++ t145)).bind fun t146 => ((word_Four.f t146).bind fun t147 => (if ((((((t142 ++ t143) ++ t144) ++ (⟨#[0, 0, 0, 0]⟩ : ByteArray)) ++ a1) ++ t145).extract 0 12).size + t147.size ≤ 9223372036854775807 then (if 16 ≤ ((((((t142 ++ t143) ++ t144) ++ (⟨#[0, 0, 0, 0]⟩ : ByteArray)) ++ a1) ++ t145).size : Int) then (if (((((((t142 ++ t143) ++ t144) ++ (⟨#[0, 0, 0, 0]⟩ : ByteArray)) ++ a1) ++ t145).extract 0 12) ++ t147).size + ((((((t142 ++ t143) ++ t144) ++ (⟨#[0, 0, 0, 0]⟩ : ByteArray)) ++ a1) ++ t145).extract 16 (((((t142 ++ t143) ++ t144) ++ (⟨#[0, 0, 0, 0]⟩ : ByteArray)) ++ a1) ++ t145).size).size ≤ 9223372036854775807 then (some ((((((((t142 ++ t143) ++ t144) ++ (⟨#[0, 0, 0, 0]⟩ : ByteArray)) ++ a1) ++ t145).extract 0 12) ++ t147) ++ ((((((t142 ++ t143) ++ t144) ++ (⟨#[0, 0, 0, 0]⟩ : ByteArray)) ++ a1) ++ t145).extract 16 (((((t142 ++ t143) ++ t144) ++ (⟨#[0, 0, 0, 0]⟩ : ByteArray)) ++ a1) ++ t145).size), 0)) else (none)) else (none)) else (none)))) else (none)) else (none)) else (none))) else (none)) else (none)) else (none))) else (none)))) = some (r1, r2) := by first | (rw [hy139]; with_reducible exact H) | (have H2_ := (Option.bind_some _ _).symm.trans H; rw [hy139]; with_reducible exact H2_) | (have H2_ := (Option.bind_some _ _).symm.trans H; with_reducible exact H2_) | with_reducible exact H | (rw [hy139]; exact H) | exact H
 have Ny139 := Aside0.mk hy139
 clear hy139
 replace H := bM H
 obtain ⟨t142, A60, H⟩ := H
 replace H : ((word_Four.f ((a0_3) % 4294967296)).bind fun t143 => (if t142.size + t143.size ≤ 9223372036854775807 then ((word_Four.f ((a0_4) % 4294967296)).bind fun t144 => (if (t142 ++ t143).size + t144.size ≤ 9223372036854775807 then (if ((t142 ++ t143) ++ t144).size + 4 ≤ 9223372036854775807 then (if (((t142 ++ t143) ++ t144) ++ (⟨#[0, 0, 0, 0]⟩ : ByteArray)).size + a1.size ≤ 9223372036854775807 then ((strings_Repeat.f (⟨#[0]⟩ : ByteArray) (wrap64 (a2 - (((((t142 ++ t143) ++ t144) ++ (⟨#[0, 0, 0, 0]⟩ : ByteArray)) ++ a1).size : Int)))).bind fun t145 => (if ((((t142 ++ t143) ++ t144) ++ (⟨#[0, 0, 0, 0]⟩ : ByteArray)) ++ a1).size + t145.size ≤ 9223372036854775807 then (if 0 ≤ 12 then (if 12 ≤ ((((((t142 ++ t143) ++ t144) ++ (⟨#[0, 0, 0, 0]⟩ : ByteArray)) ++ a1) ++ t145).size : Int) then ((sum_Table.f (((((t142 ++ t143) ++ t144) ++ (⟨#[0, 0, 0, 0]⟩ : ByteArray)) ++ a1) ++ t145)).bind fun t146 => ((word_Four.f t146).bind fun t147 => (if ((((((t142 ++ t143) ++ t144) ++ (⟨#[0, 0, 0, 0]⟩ : ByteArray)) ++ a1) ++ t145).extract 0 12).size + t147.size ≤ 9223372036854775807 then (if 16 ≤ ((((((t142 ++ t143) ++ t144) ++ (⟨#[0, 0, 0, 0]⟩ : ByteArray)) ++ a1) ++ t145).size : Int) then (if (((((((t142 ++ t143) ++ t144) ++ (⟨#[0, 0, 0, 0]⟩ : ByteArray)) ++ a1) ++ t145).extract 0 12) ++ t147).size + ((((((t142 ++ t143) ++ t144) ++ (⟨#[0, 0, 0, 0]⟩ : ByteArray)) ++ a1) ++ t145).extract 16 (((((t142 ++ t143) ++ t144) ++ (⟨#[0, 0, 0, 0]⟩ : ByteArray)) ++ a1) ++ t145).size).size ≤ 9223372036854775807 then (some ((((((((t142 ++ t143) ++ t144) ++ (⟨#[0, 0, 0, 0]⟩ : ByteArray)) ++ a1) ++ t145).extract 0 12) ++ t147) ++ ((((((t142 ++ t143) ++ t144) ++ (⟨#[0, 0, 0, 0]⟩ : ByteArray)) ++ a1) ++ t145).extract 16 (((((t142 ++ t143) ++ t144) ++ (⟨#[0, 0, 0, 0]⟩ : ByteArray)) ++ a1) ++ t145).size), 0)) else (none)) else (none)) else (none)))) else (none)) else (none)) else (none))) else (none)) else (none)) else (none))) else (none))) = some (r1, r2) := H
 have A6 := Aside0.mk A60
 clear A60
 replace H := bM H
 obtain ⟨t143, A70, H⟩ := H
 replace H : (if t142.size + t143.size ≤ 9223372036854775807 then ((word_Four.f ((a0_4) % 4294967296)).bind fun t144 => (if (t142 ++ t143).size + t144.size ≤ 9223372036854775807 then (if ((t142 ++ t143) ++ t144).size + 4 ≤ 9223372036854775807 then (if (((t142 ++ t143) ++ t144) ++ (⟨#[0, 0, 0, 0]⟩ : ByteArray)).size + a1.size ≤ 9223372036854775807 then ((strings_Repeat.f (⟨#[0]⟩ : ByteArray) (wrap64 (a2 - (((((t142 ++ t143) ++ t144) ++ (⟨#[0, 0, 0, 0]⟩ : ByteArray)) ++ a1).size : Int)))).bind fun t145 => (if ((((t142 ++ t143) ++ t144) ++ (⟨#[0, 0, 0, 0]⟩ : ByteArray)) ++ a1).size + t145.size ≤ 9223372036854775807 then (if 0 ≤ 12 then (if 12 ≤ ((((((t142 ++ t143) ++ t144) ++ (⟨#[0, 0, 0, 0]⟩ : ByteArray)) ++ a1) ++ t145).size : Int) then ((sum_Table.f (((((t142 ++ t143) ++ t144) ++ (⟨#[0, 0, 0, 0]⟩ : ByteArray)) ++ a1) ++ t145)).bind fun t146 => ((word_Four.f t146).bind fun t147 => (if ((((((t142 ++ t143) ++ t144) ++ (⟨#[0, 0, 0, 0]⟩ : ByteArray)) ++ a1) ++ t145).extract 0 12).size + t147.size ≤ 9223372036854775807 then (if 16 ≤ ((((((t142 ++ t143) ++ t144) ++ (⟨#[0, 0, 0, 0]⟩ : ByteArray)) ++ a1) ++ t145).size : Int) then (if (((((((t142 ++ t143) ++ t144) ++ (⟨#[0, 0, 0, 0]⟩ : ByteArray)) ++ a1) ++ t145).extract 0 12) ++ t147).size + ((((((t142 ++ t143) ++ t144) ++ (⟨#[0, 0, 0, 0]⟩ : ByteArray)) ++ a1) ++ t145).extract 16 (((((t142 ++ t143) ++ t144) ++ (⟨#[0, 0, 0, 0]⟩ : ByteArray)) ++ a1) ++ t145).size).size ≤ 9223372036854775807 then (some ((((((((t142 ++ t143) ++ t144) ++ (⟨#[0, 0, 0, 0]⟩ : ByteArray)) ++ a1) ++ t145).extract 0 12) ++ t147) ++ ((((((t142 ++ t143) ++ t144) ++ (⟨#[0, 0, 0, 0]⟩ : ByteArray)) ++ a1) ++ t145).extract 16 (((((t142 ++ t143) ++ t144) ++ (⟨#[0, 0, 0, 0]⟩ : ByteArray)) ++ a1) ++ t145).size), 0)) else (none)) else (none)) else (none)))) else (none)) else (none)) else (none))) else (none)) else (none)) else (none))) else (none)) = some (r1, r2) := H
 have A7 := Aside0.mk A70
 clear A70
 by_cases c8 : t142.size + t143.size ≤ 9223372036854775807
 rotate_left
 ·rw [if_neg c8] at H
  exact absurd H (by simp)
 rw [if_pos c8] at H
 have c8b0 := eq_true c8
 have c8b1 : decide (t142.size + t143.size ≤ 9223372036854775807) = true := decide_eq_true c8
 try have c8b2 : (9223372036854775807 < t142.size + t143.size) = False := eq_false (Nat.not_lt.2 c8)
 obtain ⟨js9, hjs9⟩ : ∃ j_ : ByteArray, (t142 ++ t143) = j_ := ⟨_, rfl⟩
 replace H : ((word_Four.f ((a0_4) % 4294967296)).bind fun t144 => (if (js9).size + t144.size ≤ 9223372036854775807 then (if ((js9) ++ t144).size + 4 ≤ 9223372036854775807 then (if (((js9) ++ t144) ++ (⟨#[0, 0, 0, 0]⟩ : ByteArray)).size + a1.size ≤ 9223372036854775807 then ((strings_Repeat.f (⟨#[0]⟩ : ByteArray) (wrap64 (a2 - (((((js9) ++ t144) ++ (⟨#[0, 0, 0, 0]⟩ : ByteArray)) ++ a1).size : Int)))).bind fun t145 => (if ((((js9) ++ t144) ++ (⟨#[0, 0, 0, 0]⟩ : ByteArray)) ++ a1).size + t145.size ≤ 9223372036854775807 then (if 0 ≤ 12 then (if 12 ≤ ((((((js9) ++ t144) ++ (⟨#[0, 0, 0, 0]⟩ : ByteArray)) ++ a1) ++ t145).size : Int) then ((sum_Table.f (((((js9) ++ t144) ++ (⟨#[0, 0, 0, 0]⟩ : ByteArray)) ++ a1) ++ t145)).bind fun t146 => ((word_Four.f t146).bind fun t147 => (if ((((((js9) ++ t144) ++ (⟨#[0, 0, 0, 0]⟩ : ByteArray)) ++ a1) ++ t145).extract 0 12).size + t147.size ≤ 9223372036854775807 then (if 16 ≤ ((((((js9) ++ t144) ++ (⟨#[0, 0, 0, 0]⟩ : ByteArray)) ++ a1) ++ t145).size : Int) then (if (((((((js9) ++ t144) ++ (⟨#[0, 0, 0, 0]⟩ : ByteArray)) ++ a1) ++ t145).extract 0 12) ++ t147).size + ((((((js9) ++ t144) ++ (⟨#[0, 0, 0, 0]⟩ : ByteArray)) ++ a1) ++ t145).extract 16 (((((js9) ++ t144) ++ (⟨#[0, 0, 0, 0]⟩ : ByteArray)) ++ a1) ++ t145).size).size ≤ 9223372036854775807 then (some ((((((((js9) ++ t144) ++ (⟨#[0, 0, 0, 0]⟩ : ByteArray)) ++ a1) ++ t145).extract 0 12) ++ t147) ++ ((((((js9) ++ t144) ++ (⟨#[0, 0, 0, 0]⟩ : ByteArray)) ++ a1) ++ t145).extract 16 (((((js9) ++ t144) ++ (⟨#[0, 0, 0, 0]⟩ : ByteArray)) ++ a1) ++ t145).size), 0)) else (none)) else (none)) else (none)))) else (none)) else (none)) else (none))) else (none)) else (none)) else (none))) = some (r1, r2) := by first | (rw [hjs9] at H; exact H) | (simp only [hjs9] at H ⊢; exact H)
 (try rw [hjs9] at A4)
 (try rw [hjs9] at A6)
 (try rw [hjs9] at A7)
 replace H := bM H
 obtain ⟨t144, A100, H⟩ := H
 replace H : (if (js9).size + t144.size ≤ 9223372036854775807 then (if ((js9) ++ t144).size + 4 ≤ 9223372036854775807 then (if (((js9) ++ t144) ++ (⟨#[0, 0, 0, 0]⟩ : ByteArray)).size + a1.size ≤ 9223372036854775807 then ((strings_Repeat.f (⟨#[0]⟩ : ByteArray) (wrap64 (a2 - (((((js9) ++ t144) ++ (⟨#[0, 0, 0, 0]⟩ : ByteArray)) ++ a1).size : Int)))).bind fun t145 => (if ((((js9) ++ t144) ++ (⟨#[0, 0, 0, 0]⟩ : ByteArray)) ++ a1).size + t145.size ≤ 9223372036854775807 then (if 0 ≤ 12 then (if 12 ≤ ((((((js9) ++ t144) ++ (⟨#[0, 0, 0, 0]⟩ : ByteArray)) ++ a1) ++ t145).size : Int) then ((sum_Table.f (((((js9) ++ t144) ++ (⟨#[0, 0, 0, 0]⟩ : ByteArray)) ++ a1) ++ t145)).bind fun t146 => ((word_Four.f t146).bind fun t147 => (if ((((((js9) ++ t144) ++ (⟨#[0, 0, 0, 0]⟩ : ByteArray)) ++ a1) ++ t145).extract 0 12).size + t147.size ≤ 9223372036854775807 then (if 16 ≤ ((((((js9) ++ t144) ++ (⟨#[0, 0, 0, 0]⟩ : ByteArray)) ++ a1) ++ t145).size : Int) then (if (((((((js9) ++ t144) ++ (⟨#[0, 0, 0, 0]⟩ : ByteArray)) ++ a1) ++ t145).extract 0 12) ++ t147).size + ((((((js9) ++ t144) ++ (⟨#[0, 0, 0, 0]⟩ : ByteArray)) ++ a1) ++ t145).extract 16 (((((js9) ++ t144) ++ (⟨#[0, 0, 0, 0]⟩ : ByteArray)) ++ a1) ++ t145).size).size ≤ 9223372036854775807 then (some ((((((((js9) ++ t144) ++ (⟨#[0, 0, 0, 0]⟩ : ByteArray)) ++ a1) ++ t145).extract 0 12) ++ t147) ++ ((((((js9) ++ t144) ++ (⟨#[0, 0, 0, 0]⟩ : ByteArray)) ++ a1) ++ t145).extract 16 (((((js9) ++ t144) ++ (⟨#[0, 0, 0, 0]⟩ : ByteArray)) ++ a1) ++ t145).size), 0)) else (none)) else (none)) else (none)))) else (none)) else (none)) else (none))) else (none)) else (none)) else (none)) = some (r1, r2) := H
 have A10 := Aside0.mk A100
 clear A100
 by_cases c11 : (js9).size + t144.size ≤ 9223372036854775807
 rotate_left
 ·rw [if_neg c11] at H
  exact absurd H (by simp)
 rw [if_pos c11] at H
 have c11b0 := eq_true c11
 have c11b1 : decide ((js9).size + t144.size ≤ 9223372036854775807) = true := decide_eq_true c11
 try have c11b2 : (9223372036854775807 < (js9).size + t144.size) = False := eq_false (Nat.not_lt.2 c11)
 obtain ⟨js12, hjs12⟩ : ∃ j_ : ByteArray, ((js9) ++ t144) = j_ := ⟨_, rfl⟩
 replace H : (if (js12).size + 4 ≤ 9223372036854775807 then (if ((js12) ++ (⟨#[0, 0, 0, 0]⟩ : ByteArray)).size + a1.size ≤ 9223372036854775807 then ((strings_Repeat.f (⟨#[0]⟩ : ByteArray) (wrap64 (a2 - ((((js12) ++ (⟨#[0, 0, 0, 0]⟩ : ByteArray)) ++ a1).size : Int)))).bind fun t145 => (if (((js12) ++ (⟨#[0, 0, 0, 0]⟩ : ByteArray)) ++ a1).size + t145.size ≤ 9223372036854775807 then (if 0 ≤ 12 then (if 12 ≤ (((((js12) ++ (⟨#[0, 0, 0, 0]⟩ : ByteArray)) ++ a1) ++ t145).size : Int) then ((sum_Table.f ((((js12) ++ (⟨#[0, 0, 0, 0]⟩ : ByteArray)) ++ a1) ++ t145)).bind fun t146 => ((word_Four.f t146).bind fun t147 => (if (((((js12) ++ (⟨#[0, 0, 0, 0]⟩ : ByteArray)) ++ a1) ++ t145).extract 0 12).size + t147.size ≤ 9223372036854775807 then (if 16 ≤ (((((js12) ++ (⟨#[0, 0, 0, 0]⟩ : ByteArray)) ++ a1) ++ t145).size : Int) then (if ((((((js12) ++ (⟨#[0, 0, 0, 0]⟩ : ByteArray)) ++ a1) ++ t145).extract 0 12) ++ t147).size + (((((js12) ++ (⟨#[0, 0, 0, 0]⟩ : ByteArray)) ++ a1) ++ t145).extract 16 ((((js12) ++ (⟨#[0, 0, 0, 0]⟩ : ByteArray)) ++ a1) ++ t145).size).size ≤ 9223372036854775807 then (some (((((((js12) ++ (⟨#[0, 0, 0, 0]⟩ : ByteArray)) ++ a1) ++ t145).extract 0 12) ++ t147) ++ (((((js12) ++ (⟨#[0, 0, 0, 0]⟩ : ByteArray)) ++ a1) ++ t145).extract 16 ((((js12) ++ (⟨#[0, 0, 0, 0]⟩ : ByteArray)) ++ a1) ++ t145).size), 0)) else (none)) else (none)) else (none)))) else (none)) else (none)) else (none))) else (none)) else (none)) = some (r1, r2) := by first | (rw [hjs12] at H; exact H) | (simp only [hjs12] at H ⊢; exact H)
 (try rw [hjs12] at A4)
 (try rw [hjs12] at A6)
 (try rw [hjs12] at A7)
 (try rw [hjs12] at A10)
 by_cases c13 : (js12).size + 4 ≤ 9223372036854775807
 rotate_left
 ·rw [if_neg c13] at H
  exact absurd H (by simp)
 rw [if_pos c13] at H
 have c13b0 := eq_true c13
 have c13b1 : decide ((js12).size + 4 ≤ 9223372036854775807) = true := decide_eq_true c13
 try have c13b2 : (9223372036854775807 < (js12).size + 4) = False := eq_false (Nat.not_lt.2 c13)
 obtain ⟨js14, hjs14⟩ : ∃ j_ : ByteArray, ((js12) ++ (⟨#[0, 0, 0, 0]⟩ : ByteArray)) = j_ := ⟨_, rfl⟩
 replace H : (if (js14).size + a1.size ≤ 9223372036854775807 then ((strings_Repeat.f (⟨#[0]⟩ : ByteArray) (wrap64 (a2 - (((js14) ++ a1).size : Int)))).bind fun t145 => (if ((js14) ++ a1).size + t145.size ≤ 9223372036854775807 then (if 0 ≤ 12 then (if 12 ≤ ((((js14) ++ a1) ++ t145).size : Int) then ((sum_Table.f (((js14) ++ a1) ++ t145)).bind fun t146 => ((word_Four.f t146).bind fun t147 => (if ((((js14) ++ a1) ++ t145).extract 0 12).size + t147.size ≤ 9223372036854775807 then (if 16 ≤ ((((js14) ++ a1) ++ t145).size : Int) then (if (((((js14) ++ a1) ++ t145).extract 0 12) ++ t147).size + ((((js14) ++ a1) ++ t145).extract 16 (((js14) ++ a1) ++ t145).size).size ≤ 9223372036854775807 then (some ((((((js14) ++ a1) ++ t145).extract 0 12) ++ t147) ++ ((((js14) ++ a1) ++ t145).extract 16 (((js14) ++ a1) ++ t145).size), 0)) else (none)) else (none)) else (none)))) else (none)) else (none)) else (none))) else (none)) = some (r1, r2) := by first | (rw [hjs14] at H; exact H) | (simp only [hjs14] at H ⊢; exact H)
 (try rw [hjs14] at A4)
 (try rw [hjs14] at A6)
 (try rw [hjs14] at A7)
 (try rw [hjs14] at A10)
 by_cases c15 : (js14).size + a1.size ≤ 9223372036854775807
 rotate_left
 ·rw [if_neg c15] at H
  exact absurd H (by simp)
 rw [if_pos c15] at H
 have c15b0 := eq_true c15
 have c15b1 : decide ((js14).size + a1.size ≤ 9223372036854775807) = true := decide_eq_true c15
 try have c15b2 : (9223372036854775807 < (js14).size + a1.size) = False := eq_false (Nat.not_lt.2 c15)
 obtain ⟨js16, hjs16⟩ : ∃ j_ : ByteArray, ((js14) ++ a1) = j_ := ⟨_, rfl⟩
 replace H : ((strings_Repeat.f (⟨#[0]⟩ : ByteArray) (wrap64 (a2 - ((js16).size : Int)))).bind fun t145 => (if (js16).size + t145.size ≤ 9223372036854775807 then (if 0 ≤ 12 then (if 12 ≤ (((js16) ++ t145).size : Int) then ((sum_Table.f ((js16) ++ t145)).bind fun t146 => ((word_Four.f t146).bind fun t147 => (if (((js16) ++ t145).extract 0 12).size + t147.size ≤ 9223372036854775807 then (if 16 ≤ (((js16) ++ t145).size : Int) then (if ((((js16) ++ t145).extract 0 12) ++ t147).size + (((js16) ++ t145).extract 16 ((js16) ++ t145).size).size ≤ 9223372036854775807 then (some (((((js16) ++ t145).extract 0 12) ++ t147) ++ (((js16) ++ t145).extract 16 ((js16) ++ t145).size), 0)) else (none)) else (none)) else (none)))) else (none)) else (none)) else (none))) = some (r1, r2) := by first | (rw [hjs16] at H; exact H) | (simp only [hjs16] at H ⊢; exact H)
 (try rw [hjs16] at A4)
 (try rw [hjs16] at A6)
 (try rw [hjs16] at A7)
 (try rw [hjs16] at A10)
 replace H := bM H
 obtain ⟨t145, A170, H⟩ := H
 replace H : (if (js16).size + t145.size ≤ 9223372036854775807 then (if 0 ≤ 12 then (if 12 ≤ (((js16) ++ t145).size : Int) then ((sum_Table.f ((js16) ++ t145)).bind fun t146 => ((word_Four.f t146).bind fun t147 => (if (((js16) ++ t145).extract 0 12).size + t147.size ≤ 9223372036854775807 then (if 16 ≤ (((js16) ++ t145).size : Int) then (if ((((js16) ++ t145).extract 0 12) ++ t147).size + (((js16) ++ t145).extract 16 ((js16) ++ t145).size).size ≤ 9223372036854775807 then (some (((((js16) ++ t145).extract 0 12) ++ t147) ++ (((js16) ++ t145).extract 16 ((js16) ++ t145).size), 0)) else (none)) else (none)) else (none)))) else (none)) else (none)) else (none)) = some (r1, r2) := H
 have A17 := Aside0.mk A170
 clear A170
 by_cases c18 : (js16).size + t145.size ≤ 9223372036854775807
 rotate_left
 ·rw [if_neg c18] at H
  exact absurd H (by simp)
 rw [if_pos c18] at H
 have c18b0 := eq_true c18
 have c18b1 : decide ((js16).size + t145.size ≤ 9223372036854775807) = true := decide_eq_true c18
 try have c18b2 : (9223372036854775807 < (js16).size + t145.size) = False := eq_false (Nat.not_lt.2 c18)
 obtain ⟨js19, hjs19⟩ : ∃ j_ : ByteArray, ((js16) ++ t145) = j_ := ⟨_, rfl⟩
 replace H : (if 0 ≤ 12 then (if 12 ≤ ((js19).size : Int) then ((sum_Table.f (js19)).bind fun t146 => ((word_Four.f t146).bind fun t147 => (if ((js19).extract 0 12).size + t147.size ≤ 9223372036854775807 then (if 16 ≤ ((js19).size : Int) then (if (((js19).extract 0 12) ++ t147).size + ((js19).extract 16 (js19).size).size ≤ 9223372036854775807 then (some ((((js19).extract 0 12) ++ t147) ++ ((js19).extract 16 (js19).size), 0)) else (none)) else (none)) else (none)))) else (none)) else (none)) = some (r1, r2) := by first | (rw [hjs19] at H; exact H) | (simp only [hjs19] at H ⊢; exact H)
 (try rw [hjs19] at A4)
 (try rw [hjs19] at A6)
 (try rw [hjs19] at A7)
 (try rw [hjs19] at A10)
 (try rw [hjs19] at A17)
 by_cases c20 : 0 ≤ 12
 rotate_left
 ·rw [if_neg c20] at H
  exact absurd H (by simp)
 rw [if_pos c20] at H
 have c20b0 := eq_true c20
 have c20b1 : decide (0 ≤ 12) = true := decide_eq_true c20
 clear c20
 by_cases c21 : 12 ≤ ((js19).size : Int)
 rotate_left
 ·rw [if_neg c21] at H
  exact absurd H (by simp)
 rw [if_pos c21] at H
 have c21b0 := eq_true c21
 have c21b1 : decide (12 ≤ ((js19).size : Int)) = true := decide_eq_true c21
 clear c21
 obtain ⟨js22, hjs22⟩ : ∃ j_ : ByteArray, ((js19).extract 0 12) = j_ := ⟨_, rfl⟩
 replace H : ((sum_Table.f (js19)).bind fun t146 => ((word_Four.f t146).bind fun t147 => (if (js22).size + t147.size ≤ 9223372036854775807 then (if 16 ≤ ((js19).size : Int) then (if ((js22) ++ t147).size + ((js19).extract 16 (js19).size).size ≤ 9223372036854775807 then (some (((js22) ++ t147) ++ ((js19).extract 16 (js19).size), 0)) else (none)) else (none)) else (none)))) = some (r1, r2) := by first | (rw [hjs22] at H; exact H) | (simp only [hjs22] at H ⊢; exact H)
 (try rw [hjs22] at A4)
 (try rw [hjs22] at A6)
 (try rw [hjs22] at A7)
 (try rw [hjs22] at A10)
 (try rw [hjs22] at A17)
 replace H := bM H
 obtain ⟨t146, A230, H⟩ := H
 replace H : ((word_Four.f t146).bind fun t147 => (if (js22).size + t147.size ≤ 9223372036854775807 then (if 16 ≤ ((js19).size : Int) then (if ((js22) ++ t147).size + ((js19).extract 16 (js19).size).size ≤ 9223372036854775807 then (some (((js22) ++ t147) ++ ((js19).extract 16 (js19).size), 0)) else (none)) else (none)) else (none))) = some (r1, r2) := H
 have A23 := Aside0.mk A230
 clear A230
 replace H := bM H
 obtain ⟨t147, A240, H⟩ := H
 replace H : (if (js22).size + t147.size ≤ 9223372036854775807 then (if 16 ≤ ((js19).size : Int) then (if ((js22) ++ t147).size + ((js19).extract 16 (js19).size).size ≤ 9223372036854775807 then (some (((js22) ++ t147) ++ ((js19).extract 16 (js19).size), 0)) else (none)) else (none)) else (none)) = some (r1, r2) := H
 have A24 := Aside0.mk A240
 clear A240
 by_cases c25 : (js22).size + t147.size ≤ 9223372036854775807
 rotate_left
 ·rw [if_neg c25] at H
  exact absurd H (by simp)
 rw [if_pos c25] at H
 have c25b0 := eq_true c25
 have c25b1 : decide ((js22).size + t147.size ≤ 9223372036854775807) = true := decide_eq_true c25
 try have c25b2 : (9223372036854775807 < (js22).size + t147.size) = False := eq_false (Nat.not_lt.2 c25)
 obtain ⟨js26, hjs26⟩ : ∃ j_ : ByteArray, ((js22) ++ t147) = j_ := ⟨_, rfl⟩
 replace H : (if 16 ≤ ((js19).size : Int) then (if (js26).size + ((js19).extract 16 (js19).size).size ≤ 9223372036854775807 then (some ((js26) ++ ((js19).extract 16 (js19).size), 0)) else (none)) else (none)) = some (r1, r2) := by first | (rw [hjs26] at H; exact H) | (simp only [hjs26] at H ⊢; exact H)
 (try rw [hjs26] at A4)
 (try rw [hjs26] at A6)
 (try rw [hjs26] at A7)
 (try rw [hjs26] at A10)
 (try rw [hjs26] at A17)
 (try rw [hjs26] at A23)
 (try rw [hjs26] at A24)
 by_cases c27 : 16 ≤ ((js19).size : Int)
 rotate_left
 ·rw [if_neg c27] at H
  exact absurd H (by simp)
 rw [if_pos c27] at H
 have c27b0 := eq_true c27
 have c27b1 : decide (16 ≤ ((js19).size : Int)) = true := decide_eq_true c27
 clear c27
 obtain ⟨js28, hjs28⟩ : ∃ j_ : ByteArray, ((js19).extract 16 (js19).size) = j_ := ⟨_, rfl⟩
 replace H : (if (js26).size + (js28).size ≤ 9223372036854775807 then (some ((js26) ++ (js28), 0)) else (none)) = some (r1, r2) := by first | (rw [hjs28] at H; exact H) | (simp only [hjs28] at H ⊢; exact H)
 (try rw [hjs28] at A4)
 (try rw [hjs28] at A6)
 (try rw [hjs28] at A7)
 (try rw [hjs28] at A10)
 (try rw [hjs28] at A17)
 (try rw [hjs28] at A23)
 (try rw [hjs28] at A24)
 by_cases c29 : (js26).size + (js28).size ≤ 9223372036854775807
 rotate_left
 ·rw [if_neg c29] at H
  exact absurd H (by simp)
 rw [if_pos c29] at H
 have c29b0 := eq_true c29
 have c29b1 : decide ((js26).size + (js28).size ≤ 9223372036854775807) = true := decide_eq_true c29
 try have c29b2 : (9223372036854775807 < (js26).size + (js28).size) = False := eq_false (Nat.not_lt.2 c29)
 obtain ⟨js30, hjs30⟩ : ∃ j_ : ByteArray, ((js26) ++ (js28)) = j_ := ⟨_, rfl⟩
 replace H : (some (js30, 0)) = some (r1, r2) := by first | (rw [hjs30] at H; exact H) | (simp only [hjs30] at H ⊢; exact H)
 (try rw [hjs30] at A4)
 (try rw [hjs30] at A6)
 (try rw [hjs30] at A7)
 (try rw [hjs30] at A10)
 (try rw [hjs30] at A17)
 (try rw [hjs30] at A23)
 (try rw [hjs30] at A24)
 simp only [Option.some.injEq, Prod.mk.injEq] at H
 obtain ⟨rfl, rfl⟩ := H
 go_enter Tryz.func20, Tryz.ntmps20
 try go_wp2_with (first | ((with_reducible refine gate_dst (N := 3) rfl ?_); refine box_event (by rfl) (N := 3) (by rfl) (cs := #[.int .i64 a0_0, .int .i64 a0_1, .int .i64 a0_2, .int .i64 a0_3, .int .i64 a0_4]) (t := 48) gS ?_; intro gb137 hg w31 hbox hb; have BK137 := as_ (hbox); have GW137 := gw hg bA; have GE137 := gw hg bA; replace HB := as_ (below_step bA hb); clear hb hbox hg; obtain ⟨hcz32_0, hcz32_1, hcz32_2, hcz32_3, hcz32_4⟩ := zc5 BK137; obtain ⟨hfz32_0, hfz32_1, hfz32_2, hfz32_3, hfz32_4⟩ := zf5 BK137) | ((with_reducible refine gate_callee (f := 30) rfl ?_); refine goesL_ (some 13) rfl rfl Tryz.func30 (by kernel_rfl) rfl #[.agg #[.int .i64 a0_0, .int .i64 a0_1, .int .i64 a0_2, .int .i64 a0_3, .int .i64 a0_4], .string a1, .int .i64 a2] rfl aO ?_; (with_reducible refine (head_may.calls a0_0 a0_1 a0_2 a0_3 a0_4 a1 a2 t138 _ A4.out).mono ?_); rintro e w33 ⟨evw33, rfl, her_, hec_, hb⟩; have HER := Aside0.mk her_; have HEC := Aside0.mk hec_; clear her_ hec_; refine ⟨_, rfl, ?_⟩; replace BK137 := bb BK137 hb; replace HB := as_ (below_step bA hb); (try clear hb); (try clear hb2); (try clear hk); (try clear hi)) | ((with_reducible refine gate_callee (f := 29) rfl ?_); refine goesL_ (some 14) rfl rfl Tryz.func29 (by kernel_rfl) rfl #[evw33] rfl (by (try simp only [List.map_toArray, List.map_cons, List.map_nil]); first | done | rfl) ?_; (with_reducible refine (head_may.calls2 evw33 t138 HEC.out _ HER.out).mono ?_); rintro e w33b ⟨rfl, hb⟩; refine ⟨_, rfl, ?_⟩; replace BK137 := bb BK137 hb; replace HB := as_ (below_step bA hb); (try clear hb); (try clear hb2); (try clear hk); (try clear hi)))
 replace BK137 := as_ (blk_drew BK137.out)
 replace HB := as_ (below_drew1 HB.out)
 refine start_ (n := 25) (S := fun w' => w'.cell? ⟨gb137, 0, none⟩ = some (.int .i64 a0_0) ∧ w'.cell? ⟨gb137, 1, none⟩ = some (.int .i64 a0_1) ∧ w'.cell? ⟨gb137, 2, none⟩ = some (.int .i64 a0_2) ∧ w'.cell? ⟨gb137, 3, none⟩ = some (.int .i64 a0_3) ∧ w'.cell? ⟨gb137, 4, none⟩ = some (.int .i64 a0_4)) (ds := []) #[ff, ff, ff, ff, ff, ff, ff, ff, ff, ff, ff, ff, ff, ff, ff, ff, ff, ff, ff, ff, ff, ff, ff, ff, ff] (by kernel_rfl) rfl rfl ⟨(blk_cell BK137.out 0).trans rfl, (blk_cell BK137.out 1).trans rfl, (blk_cell BK137.out 2).trans rfl, (blk_cell BK137.out 3).trans rfl, (blk_cell BK137.out 4).trans rfl⟩ (fun hHeld => ?_); refine with_tabW head_Seal.tab4 head_Seal.bits4 (fun HT_ HW_ => ?_)
 generalize w33.drew = w34 at BK137 HB hHeld ⊢
 refine pure_ (i := 0) (N := some 18) (v := ?_) (a' := ?_) #[tt, ff, ff, ff, ff, ff, ff, ff, ff, ff, ff, ff, ff, ff, ff, ff, ff, ff, ff, ff, ff, ff, ff, ff, ff] rfl rfl (any_of HT_.out (by kernel_rfl)) (fun _ _ _ h => h) (Or.inl ⟨by rfl, ?_⟩) ?_ ?_
 rotate_left
 ·intro w'
  go_simp
  with_reducible rfl
 rotate_left
 ·exact aP
 refine pure_ (i := 2) (N := some 20) (v := ?_) (a' := ?_) #[tt, ff, tt, ff, ff, ff, ff, ff, ff, ff, ff, ff, ff, ff, ff, ff, ff, ff, ff, ff, ff, ff, ff, ff, ff] rfl rfl (any_of HT_.out (by kernel_rfl)) (fun _ _ _ h => h) (Or.inl ⟨by rfl, ?_⟩) ?_ ?_
 rotate_left
 ·intro w'
  go_simp
  with_reducible rfl
 rotate_left
 ·exact aP
 refine pure_ (i := 4) (N := some 22) (v := ?_) (a' := ?_) #[tt, ff, tt, ff, tt, ff, ff, ff, ff, ff, ff, ff, ff, ff, ff, ff, ff, ff, ff, ff, ff, ff, ff, ff, ff] rfl rfl (any_of HT_.out (by kernel_rfl)) (fun _ _ _ h => h) (Or.inl ⟨by rfl, ?_⟩) ?_ ?_
 rotate_left
 ·intro w'
  go_simp
  with_reducible rfl
 rotate_left
 ·exact aP
 refine pure_ (i := 6) (N := some 24) (v := ?_) (a' := ?_) #[tt, ff, tt, ff, tt, ff, tt, ff, ff, ff, ff, ff, ff, ff, ff, ff, ff, ff, ff, ff, ff, ff, ff, ff, ff] rfl rfl (any_of HT_.out (by kernel_rfl)) (fun _ _ _ h => h) (Or.inl ⟨by rfl, ?_⟩) ?_ ?_
 rotate_left
 ·intro w'
  go_simp
  with_reducible rfl
 rotate_left
 ·exact aP
 refine pure_ (i := 11) (N := some 29) (v := ?_) (a' := ?_) #[tt, ff, tt, ff, tt, ff, tt, ff, ff, ff, ff, tt, ff, ff, ff, ff, ff, ff, ff, ff, ff, ff, ff, ff, ff] rfl rfl (any_of HT_.out (by kernel_rfl)) (fun _ _ _ h => h) (Or.inl ⟨by rfl, ?_⟩) ?_ ?_
 rotate_left
 ·intro w'
  go_simp
  with_reducible rfl
 rotate_left
 ·exact aP
 refine pure_ (i := 16) (N := some 34) (v := ?_) (a' := ?_) #[tt, ff, tt, ff, tt, ff, tt, ff, ff, ff, ff, tt, ff, ff, ff, ff, tt, ff, ff, ff, ff, ff, ff, ff, ff] rfl rfl (any_of HT_.out (by kernel_rfl)) (fun _ _ _ h => h) (Or.inl ⟨by rfl, ?_⟩) ?_ ?_
 rotate_left
 ·intro w'
  go_simp
  with_reducible rfl
 rotate_left
 ·exact aP
 refine pure_ (i := 22) (N := some 40) (v := ?_) (a' := ?_) #[tt, ff, tt, ff, tt, ff, tt, ff, ff, ff, ff, tt, ff, ff, ff, ff, tt, ff, ff, ff, ff, ff, tt, ff, ff] rfl rfl (any_of HT_.out (by kernel_rfl)) (fun _ _ _ h => h) (Or.inl ⟨by rfl, ?_⟩) ?_ ?_
 rotate_left
 ·intro w'
  go_simp
  with_reducible rfl
 rotate_left
 ·exact aP
 refine take_ (i := 1) (N := some 19) (v := ?_) (a' := ?_) #[tt, tt, tt, ff, tt, ff, tt, ff, ff, ff, ff, tt, ff, ff, ff, ff, tt, ff, ff, ff, ff, ff, tt, ff, ff] rfl rfl (take_ofW HT_.out HW_.out (by kernel_rfl)) (fun _ _ _ h => h) (Or.inl ⟨by rfl, ?_⟩) hHeld ?_ ?_
 rotate_left
 ·rintro w' ⟨s0, s1, s2, s3, s4⟩
  go_simp
  with_reducible rfl
 rotate_left
 ·exact aP
 refine take_ (i := 3) (N := some 21) (v := ?_) (a' := ?_) #[tt, tt, tt, tt, tt, ff, tt, ff, ff, ff, ff, tt, ff, ff, ff, ff, tt, ff, ff, ff, ff, ff, tt, ff, ff] rfl rfl (take_ofW HT_.out HW_.out (by kernel_rfl)) (fun _ _ _ h => h) (Or.inl ⟨by rfl, ?_⟩) hHeld ?_ ?_
 rotate_left
 ·rintro w' ⟨s0, s1, s2, s3, s4⟩
  go_simp
  with_reducible rfl
 rotate_left
 ·exact aP
 refine take_ (i := 5) (N := some 23) (v := ?_) (a' := ?_) #[tt, tt, tt, tt, tt, tt, tt, ff, ff, ff, ff, tt, ff, ff, ff, ff, tt, ff, ff, ff, ff, ff, tt, ff, ff] rfl rfl (take_ofW HT_.out HW_.out (by kernel_rfl)) (fun _ _ _ h => h) (Or.inl ⟨by rfl, ?_⟩) hHeld ?_ ?_
 rotate_left
 ·rintro w' ⟨s0, s1, s2, s3, s4⟩
  go_simp
  with_reducible rfl
 rotate_left
 ·exact aP
 refine take_ (i := 7) (N := some 25) (v := ?_) (a' := ?_) #[tt, tt, tt, tt, tt, tt, tt, tt, ff, ff, ff, tt, ff, ff, ff, ff, tt, ff, ff, ff, ff, ff, tt, ff, ff] rfl rfl (take_ofW HT_.out HW_.out (by kernel_rfl)) (fun _ _ _ h => h) (Or.inl ⟨by rfl, ?_⟩) hHeld ?_ ?_
 rotate_left
 ·rintro w' ⟨s0, s1, s2, s3, s4⟩
  go_simp
  with_reducible rfl
 rotate_left
 ·exact aP
 refine pure_ (i := 8) (N := some 26) (v := ?_) (a' := ?_) #[tt, tt, tt, tt, tt, tt, tt, tt, tt, ff, ff, tt, ff, ff, ff, ff, tt, ff, ff, ff, ff, ff, tt, ff, ff] rfl rfl (any_of HT_.out (by kernel_rfl)) (fun _ _ _ h => h) (Or.inl ⟨by rfl, ?_⟩) ?_ ?_
 rotate_left
 ·intro w'
  go_simp
  with_reducible rfl
 rotate_left
 ·exact aP
 refine take_ (i := 12) (N := some 30) (v := ?_) (a' := ?_) #[tt, tt, tt, tt, tt, tt, tt, tt, tt, ff, ff, tt, tt, ff, ff, ff, tt, ff, ff, ff, ff, ff, tt, ff, ff] rfl rfl (take_ofW HT_.out HW_.out (by kernel_rfl)) (fun _ _ _ h => h) (Or.inl ⟨by rfl, ?_⟩) hHeld ?_ ?_
 rotate_left
 ·rintro w' ⟨s0, s1, s2, s3, s4⟩
  go_simp
  with_reducible rfl
 rotate_left
 ·exact aP
 refine pure_ (i := 13) (N := some 31) (v := ?_) (a' := ?_) #[tt, tt, tt, tt, tt, tt, tt, tt, tt, ff, ff, tt, tt, tt, ff, ff, tt, ff, ff, ff, ff, ff, tt, ff, ff] rfl rfl (any_of HT_.out (by kernel_rfl)) (fun _ _ _ h => h) (Or.inl ⟨by rfl, ?_⟩) ?_ ?_
 rotate_left
 ·intro w'
  go_simp
  with_reducible rfl
 rotate_left
 ·exact aP
 refine take_ (i := 17) (N := some 35) (v := ?_) (a' := ?_) #[tt, tt, tt, tt, tt, tt, tt, tt, tt, ff, ff, tt, tt, tt, ff, ff, tt, tt, ff, ff, ff, ff, tt, ff, ff] rfl rfl (take_ofW HT_.out HW_.out (by kernel_rfl)) (fun _ _ _ h => h) (Or.inl ⟨by rfl, ?_⟩) hHeld ?_ ?_
 rotate_left
 ·rintro w' ⟨s0, s1, s2, s3, s4⟩
  go_simp
  with_reducible rfl
 rotate_left
 ·exact aP
 refine pure_ (i := 18) (N := some 36) (v := ?_) (a' := ?_) #[tt, tt, tt, tt, tt, tt, tt, tt, tt, ff, ff, tt, tt, tt, ff, ff, tt, tt, tt, ff, ff, ff, tt, ff, ff] rfl rfl (any_of HT_.out (by kernel_rfl)) (fun _ _ _ h => h) (Or.inl ⟨by rfl, ?_⟩) ?_ ?_
 rotate_left
 ·intro w'
  go_simp
  with_reducible rfl
 rotate_left
 ·exact aP
 refine one_ (i := 9) (N := some 27) #[tt, tt, tt, tt, tt, tt, tt, tt, tt, tt, ff, tt, tt, tt, ff, ff, tt, tt, tt, ff, ff, ff, tt, ff, ff] rfl rfl (one_of HT_.out (by kernel_rfl)) (by decide) (fun K hK => ?_)
 refine Kd.R_lit_step (Kd.int .i64) _ 3 ?hg (N := 27) ?hd (xs := ([a0_0, a0_1, a0_2, wrap64 (Int.tdiv a0_2 256)] : List Int)) (inner := [.int .i64 a0_0, .int .i64 a0_1, .int .i64 a0_2, .int .i64 (wrap64 (Int.tdiv a0_2 256))]) (ok := fun _ => True) (okp := fun _ => True) ?hr ?hp (fun _ hk => hk) trivial (Below.refl _ _) (Nat.le_refl _) (by simp) ?_; (case hd => rfl); (case hg => rfl); (case hr => first | (go_simp; done) | (go_simp; rfl)); (case hp => exact (Reps.one (show Kd.M (Kd.int .i64) _ _ _ a0_0 [.int .i64 a0_0] from rfl) (Reps.one (show Kd.M (Kd.int .i64) _ _ _ a0_1 [.int .i64 a0_1] from rfl) (Reps.one (show Kd.M (Kd.int .i64) _ _ _ a0_2 [.int .i64 a0_2] from rfl) (Reps.one (show Kd.M (Kd.int .i64) _ _ _ (wrap64 (Int.tdiv a0_2 256)) [.int .i64 (wrap64 (Int.tdiv a0_2 256))] from rfl) (Reps.none _ _))))))
 intro v140 w35 ho36 hb hg_ hnew_
 clear hg_ hnew_
 (first | rw [← Ny139.out] at ho36 | (simp only [Int.reduceToNat] at ho36; rw [← Ny139.out] at ho36))
 have HO141 := as_ (Kd.R_lower ho36 (below_size bA))
 replace BK137 := bb BK137 hb
 replace HB := as_ (below_step bA hb)
 clear hb ho36
 obtain ⟨Ao37, co37, eo37⟩ := Kd.R_slice HO141.out
 (first | subst eo37 | (injection eo37 with f1_ f2_ f3_; have f4_ := f1_.symm; have f5_ := f3_.symm; clear f1_ f2_ f3_; subst f4_; subst f5_))
 refine hK.out _ _ ⟨(blk_cell BK137.out 0).trans rfl, (blk_cell BK137.out 1).trans rfl, (blk_cell BK137.out 2).trans rfl, (blk_cell BK137.out 3).trans rfl, (blk_cell BK137.out 4).trans rfl⟩ (fun hHeld => ?_)
 clear hK K
 refine norm_ (a' := ?_) ?_ ?_
 rotate_left
 ·show Act.put _ (some 27) _ = _
  simp only [Act.put, List.setIfInBounds_toArray, List.set_cons_zero, List.set_cons_succ, i64_w, i32_w]
  rfl
 refine one_ (i := 10) (N := some 28) #[tt, tt, tt, tt, tt, tt, tt, tt, tt, tt, tt, tt, tt, tt, ff, ff, tt, tt, tt, ff, ff, ff, tt, ff, ff] rfl rfl (one_of HT_.out (by kernel_rfl)) (by decide) (fun K hK => ?_)
 refine goes_ Tryz.func31 (by kernel_rfl) rfl #[.slice Ao37 y139.length co37] (by rfl) rfl rfl aO ?_
 with_reducible refine (head_bytes.calls k _ _ y139 t142 _ ?side1 ?side2 A6.out).mono ?_
 (case side1 => repeat (first | exact (Kd.R_reads' HO141.out).2.2 | (with_reducible refine Kd.C_alloc ?_ _) | (with_reducible refine Kd.C_drewN ?_ _) | (with_reducible refine Kd.C_drew ?_)))
 (case side2 => exact (Kd.R_reads' HO141.out).2.1)
 rintro e w38 ⟨rfl, hb⟩
 refine ⟨_, rfl, ?_⟩
 replace HO141 := as_ (Kd.R_below (by (with_reducible repeat (first | apply Kd.R_alloc | apply Kd.R_drewN | apply Kd.R_drew)); exact HO141.out) hb)
 replace BK137 := bb BK137 hb
 replace HB := as_ (below_step bA hb)
 (try clear hb)
 (try clear hb2)
 (try clear hk)
 (try clear hi)
 refine hK.out _ _ ⟨(blk_cell BK137.out 0).trans rfl, (blk_cell BK137.out 1).trans rfl, (blk_cell BK137.out 2).trans rfl, (blk_cell BK137.out 3).trans rfl, (blk_cell BK137.out 4).trans rfl⟩ (fun hHeld => ?_)
 clear hK K
 refine norm_ (a' := ?_) ?_ ?_
 rotate_left
 ·show Act.put _ (some 28) _ = _
  simp only [Act.put, List.setIfInBounds_toArray, List.set_cons_zero, List.set_cons_succ, i64_w, i32_w]
  rfl
 refine one_ (i := 14) (N := some 32) #[tt, tt, tt, tt, tt, tt, tt, tt, tt, tt, tt, tt, tt, tt, tt, ff, tt, tt, tt, ff, ff, ff, tt, ff, ff] rfl rfl (one_of HT_.out (by kernel_rfl)) (by decide) (fun K hK => ?_)
 refine goes_ Tryz.func32 (by kernel_rfl) rfl #[.int .u32 ((a0_3) % 4294967296)] (by rfl) rfl rfl aO ?_
 with_reducible refine (word_Four.calls ((a0_3) % 4294967296) t143 _ A7.out).mono ?_
 rintro e w39 ⟨rfl, hb⟩
 refine ⟨_, rfl, ?_⟩
 replace HO141 := as_ (Kd.R_below (by (with_reducible repeat (first | apply Kd.R_alloc | apply Kd.R_drewN | apply Kd.R_drew)); exact HO141.out) hb)
 replace BK137 := bb BK137 hb
 replace HB := as_ (below_step bA hb)
 (try clear hb)
 (try clear hb2)
 (try clear hk)
 (try clear hi)
 refine hK.out _ _ ⟨(blk_cell BK137.out 0).trans rfl, (blk_cell BK137.out 1).trans rfl, (blk_cell BK137.out 2).trans rfl, (blk_cell BK137.out 3).trans rfl, (blk_cell BK137.out 4).trans rfl⟩ (fun hHeld => ?_)
 clear hK K
 refine norm_ (a' := ?_) ?_ ?_
 rotate_left
 ·show Act.put _ (some 32) _ = _
  simp only [Act.put, List.setIfInBounds_toArray, List.set_cons_zero, List.set_cons_succ, i64_w, i32_w]
  rfl
 refine pure_ (i := 15) (N := some 33) (v := ?_) (a' := ?_) #[tt, tt, tt, tt, tt, tt, tt, tt, tt, tt, tt, tt, tt, tt, tt, tt, tt, tt, tt, ff, ff, ff, tt, ff, ff] rfl rfl (any_of HT_.out (by kernel_rfl)) (fun _ _ _ h => h) (Or.inl ⟨by rfl, ?_⟩) ?_ ?_
 rotate_left
 ·intro w'
  go_simp
  with_reducible rfl
 rotate_left
 ·exact aP
 refine one_ (i := 19) (N := some 37) #[tt, tt, tt, tt, tt, tt, tt, tt, tt, tt, tt, tt, tt, tt, tt, tt, tt, tt, tt, tt, ff, ff, tt, ff, ff] rfl rfl (one_of HT_.out (by kernel_rfl)) (by decide) (fun K hK => ?_)
 refine goes_ Tryz.func32 (by kernel_rfl) rfl #[.int .u32 ((a0_4) % 4294967296)] (by rfl) rfl rfl aO ?_
 with_reducible refine (word_Four.calls ((a0_4) % 4294967296) t144 _ A10.out).mono ?_
 rintro e w40 ⟨rfl, hb⟩
 refine ⟨_, rfl, ?_⟩
 replace HO141 := as_ (Kd.R_below (by (with_reducible repeat (first | apply Kd.R_alloc | apply Kd.R_drewN | apply Kd.R_drew)); exact HO141.out) hb)
 replace BK137 := bb BK137 hb
 replace HB := as_ (below_step bA hb)
 (try clear hb)
 (try clear hb2)
 (try clear hk)
 (try clear hi)
 refine hK.out _ _ ⟨(blk_cell BK137.out 0).trans rfl, (blk_cell BK137.out 1).trans rfl, (blk_cell BK137.out 2).trans rfl, (blk_cell BK137.out 3).trans rfl, (blk_cell BK137.out 4).trans rfl⟩ (fun hHeld => ?_)
 clear hK K
 refine norm_ (a' := ?_) ?_ ?_
 rotate_left
 ·show Act.put _ (some 37) _ = _
  simp only [Act.put, List.setIfInBounds_toArray, List.set_cons_zero, List.set_cons_succ, i64_w, i32_w]
  rfl
 refine pure_ (i := 20) (N := some 38) (v := ?_) (a' := ?_) #[tt, tt, tt, tt, tt, tt, tt, tt, tt, tt, tt, tt, tt, tt, tt, tt, tt, tt, tt, tt, tt, ff, tt, ff, ff] rfl rfl (any_of HT_.out (by kernel_rfl)) (fun _ _ _ h => h) (Or.inl ⟨by rfl, ?_⟩) ?_ ?_
 rotate_left
 ·intro w'
  go_simp
  with_reducible rfl
 rotate_left
 ·exact aP
 refine pure_ (i := 21) (N := some 39) (v := ?_) (a' := ?_) #[tt, tt, tt, tt, tt, tt, tt, tt, tt, tt, tt, tt, tt, tt, tt, tt, tt, tt, tt, tt, tt, tt, tt, ff, ff] rfl rfl (any_of HT_.out (by kernel_rfl)) (fun _ _ _ h => h) (Or.inl ⟨by rfl, ?_⟩) ?_ ?_
 rotate_left
 ·intro w'
  go_simp
  with_reducible rfl
 rotate_left
 ·exact aP
 refine pure_ (i := 23) (N := some 41) (v := ?_) (a' := ?_) #[tt, tt, tt, tt, tt, tt, tt, tt, tt, tt, tt, tt, tt, tt, tt, tt, tt, tt, tt, tt, tt, tt, tt, tt, ff] rfl rfl (any_of HT_.out (by kernel_rfl)) (fun _ _ _ h => h) (Or.inl ⟨by rfl, ?_⟩) ?_ ?_
 rotate_left
 ·intro w'
  go_simp
  with_reducible rfl
 rotate_left
 ·exact aP
 refine pure_ (i := 24) (N := some 9) (v := ?_) (a' := ?_) #[tt, tt, tt, tt, tt, tt, tt, tt, tt, tt, tt, tt, tt, tt, tt, tt, tt, tt, tt, tt, tt, tt, tt, tt, tt] rfl rfl (any_of HT_.out (by kernel_rfl)) (fun _ _ _ h => h) (Or.inl ⟨by rfl, ?_⟩) ?_ ?_
 rotate_left
 ·intro w'
  go_simp
  with_reducible rfl
 rotate_left
 ·exact aP
 refine done_ (done_of HT_.out (by kernel_rfl)) ?_
 try go_wp2_with (first | ((with_reducible refine gate_callee (f := 33) rfl ?_); refine goesL_ (some 47) rfl rfl Tryz.func33 (by kernel_rfl) rfl #[.string (⟨#[0]⟩ : ByteArray), .int .i64 (wrap64 (a2 - ((js16).size : Int)))] rfl aO ?_; (first | (with_reducible refine (strings_Repeat.calls (⟨#[0]⟩ : ByteArray) (wrap64 (a2 - ((js16).size : Int))) t145 _ A17.out).mono ?_) | (with_reducible refine (strings_Repeat.calls (⟨#[0]⟩ : ByteArray) (a2 - ((js16).size : Int)) t145 _ (by have e_ := A17.out; rwa [(by unfold wrap64; omega : wrap64 (a2 - ((js16).size : Int)) = (a2 - ((js16).size : Int)))] at e_)).mono ?_)); rintro e w41 ⟨rfl, hb⟩; refine ⟨_, rfl, ?_⟩; replace HO141 := as_ (Kd.R_below (by (with_reducible repeat (first | apply Kd.R_alloc | apply Kd.R_drewN | apply Kd.R_drew)); exact HO141.out) hb); replace BK137 := bb BK137 hb; replace HB := as_ (below_step bA hb); (try clear hb); (try clear hb2); (try clear hk); (try clear hi)))
 replace HO141 := as_ (Kd.R_drew HO141.out)
 replace BK137 := as_ (blk_drew BK137.out)
 replace HB := as_ (below_drew1 HB.out)
 refine start_ (n := 11) (S := fun w' => True) (ds := []) #[ff, ff, ff, ff, ff, ff, ff, ff, ff, ff, ff] (by kernel_rfl) rfl rfl trivial (fun hHeld => ?_); refine with_tabW head_Seal.tab6 head_Seal.bits6 (fun HT_ HW_ => ?_)
 generalize w41.drew = w42 at HO141 BK137 HB hHeld ⊢
 refine pure_ (i := 0) (N := some 49) (v := ?_) (a' := ?_) #[tt, ff, ff, ff, ff, ff, ff, ff, ff, ff, ff] rfl rfl (any_of HT_.out (by kernel_rfl)) (fun _ _ _ h => h) (Or.inl ⟨by rfl, ?_⟩) ?_ ?_
 rotate_left
 ·intro w'
  go_simp
  with_reducible rfl
 rotate_left
 ·exact aP
 refine pure_ (i := 1) (N := some 50) (v := ?_) (a' := ?_) #[tt, tt, ff, ff, ff, ff, ff, ff, ff, ff, ff] rfl rfl (any_of HT_.out (by kernel_rfl)) (fun _ _ _ h => h) (Or.inl ⟨by rfl, ?_⟩) ?_ ?_
 rotate_left
 ·intro w'
  go_simp
  with_reducible rfl
 rotate_left
 ·exact aP
 refine pure_ (i := 2) (N := some 51) (v := ?_) (a' := ?_) #[tt, tt, tt, ff, ff, ff, ff, ff, ff, ff, ff] rfl rfl (any_of HT_.out (by kernel_rfl)) (fun _ _ _ h => h) (Or.inl ⟨by rfl, ?_⟩) ?_ ?_
 rotate_left
 ·intro w'
  go_simp
  with_reducible rfl
 rotate_left
 ·exact aP
 refine pure_ (i := 6) (N := some 55) (v := ?_) (a' := ?_) #[tt, tt, tt, ff, ff, ff, tt, ff, ff, ff, ff] rfl rfl (any_of HT_.out (by kernel_rfl)) (fun _ _ _ h => h) (Or.inl ⟨by rfl, ?_⟩) ?_ ?_
 rotate_left
 ·intro w'
  go_simp
  with_reducible rfl
 rotate_left
 ·exact aP
 refine pure_ (i := 7) (N := some 56) (v := ?_) (a' := ?_) #[tt, tt, tt, ff, ff, ff, tt, tt, ff, ff, ff] rfl rfl (any_of HT_.out (by kernel_rfl)) (fun _ _ _ h => h) (Or.inl ⟨by rfl, ?_⟩) ?_ ?_
 rotate_left
 ·intro w'
  go_simp
  with_reducible rfl
 rotate_left
 ·exact aP
 refine one_ (i := 3) (N := some 52) #[tt, tt, tt, tt, ff, ff, tt, tt, ff, ff, ff] rfl rfl (one_of HT_.out (by kernel_rfl)) (by decide) (fun K hK => ?_)
 refine goes_ Tryz.func34 (by kernel_rfl) rfl #[.string js19] (by rfl) rfl rfl aO ?_
 with_reducible refine (sum_Table.calls js19 t146 _ A23.out).mono ?_
 rintro e w43 ⟨rfl, hb⟩
 refine ⟨_, rfl, ?_⟩
 replace HO141 := as_ (Kd.R_below (by (with_reducible repeat (first | apply Kd.R_alloc | apply Kd.R_drewN | apply Kd.R_drew)); exact HO141.out) hb)
 replace BK137 := bb BK137 hb
 replace HB := as_ (below_step bA hb)
 (try clear hb)
 (try clear hb2)
 (try clear hk)
 (try clear hi)
 refine hK.out _ _ trivial (fun hHeld => ?_)
 clear hK K
 refine norm_ (a' := ?_) ?_ ?_
 rotate_left
 ·show Act.put _ (some 52) _ = _
  simp only [Act.put, List.setIfInBounds_toArray, List.set_cons_zero, List.set_cons_succ, i64_w, i32_w]
  rfl
 refine one_ (i := 4) (N := some 53) #[tt, tt, tt, tt, tt, ff, tt, tt, ff, ff, ff] rfl rfl (one_of HT_.out (by kernel_rfl)) (by decide) (fun K hK => ?_)
 refine goes_ Tryz.func32 (by kernel_rfl) rfl #[.int .u32 t146] (by rfl) rfl rfl aO ?_
 with_reducible refine (word_Four.calls t146 t147 _ A24.out).mono ?_
 rintro e w44 ⟨rfl, hb⟩
 refine ⟨_, rfl, ?_⟩
 replace HO141 := as_ (Kd.R_below (by (with_reducible repeat (first | apply Kd.R_alloc | apply Kd.R_drewN | apply Kd.R_drew)); exact HO141.out) hb)
 replace BK137 := bb BK137 hb
 replace HB := as_ (below_step bA hb)
 (try clear hb)
 (try clear hb2)
 (try clear hk)
 (try clear hi)
 refine hK.out _ _ trivial (fun hHeld => ?_)
 clear hK K
 refine norm_ (a' := ?_) ?_ ?_
 rotate_left
 ·show Act.put _ (some 53) _ = _
  simp only [Act.put, List.setIfInBounds_toArray, List.set_cons_zero, List.set_cons_succ, i64_w, i32_w]
  rfl
 refine pure_ (i := 5) (N := some 54) (v := ?_) (a' := ?_) #[tt, tt, tt, tt, tt, tt, tt, tt, ff, ff, ff] rfl rfl (any_of HT_.out (by kernel_rfl)) (fun _ _ _ h => h) (Or.inl ⟨by rfl, ?_⟩) ?_ ?_
 rotate_left
 ·intro w'
  go_simp
  with_reducible rfl
 rotate_left
 ·exact aP
 refine pure_ (i := 8) (N := some 57) (v := ?_) (a' := ?_) #[tt, tt, tt, tt, tt, tt, tt, tt, tt, ff, ff] rfl rfl (any_of HT_.out (by kernel_rfl)) (fun _ _ _ h => h) (Or.inl ⟨by rfl, ?_⟩) ?_ ?_
 rotate_left
 ·intro w'
  go_simp
  with_reducible rfl
 rotate_left
 ·exact aP
 refine pure_ (i := 9) (N := some 6) (v := ?_) (a' := ?_) #[tt, tt, tt, tt, tt, tt, tt, tt, tt, tt, ff] rfl rfl (any_of HT_.out (by kernel_rfl)) (fun _ _ _ h => h) (Or.inl ⟨by rfl, ?_⟩) ?_ ?_
 rotate_left
 ·intro w'
  go_simp
  with_reducible rfl
 rotate_left
 ·exact aP
 refine pure_ (i := 10) (N := some 7) (v := ?_) (a' := ?_) #[tt, tt, tt, tt, tt, tt, tt, tt, tt, tt, tt] rfl rfl (any_of HT_.out (by kernel_rfl)) (fun _ _ _ h => h) (Or.inl ⟨by rfl, ?_⟩) ?_ ?_
 rotate_left
 ·intro w'
  go_simp
  with_reducible rfl
 rotate_left
 ·exact aP
 refine done_ (done_of HT_.out (by kernel_rfl)) ?_
 try go_wp2
 go_ret2
 exact ⟨by first | rfl | (simp [errW_none, errW_some] <;> rfl) | (simp only [← hjs9, ← hjs12, ← hjs14, ← hjs16, ← hjs19, ← hjs22, ← hjs26, ← hjs28, ← hjs30]; first | rfl | (simp [errW_none, errW_some] <;> rfl)) | (simp [*, errW_none, errW_some] <;> rfl), by repeat (first | (with_reducible first | exact HB.out | apply below_alloc | apply pw_below_drewN | apply below_drew1 | refine below_set ?_ GE137.out) | exact HB.out)⟩
/-! ### chain_Encode: function 5 -/
def chain_Encode.f (k : Nat) (a0_0 : Int) (a0_1 : Int) (a0_2 : ByteArray) (a1 : Int) : Option (ByteArray × Int) := (disk_Size.f a1).bind fun t149 => (if t149 = true then ((chain_May.f a0_0 a0_1 a0_2 a1).bind fun t150 => (if t150 = true then ((head_Seal.f k 4 0 (a0_2.size : Int) a0_1 a0_0 a0_2 a1).bind fun bt151 => (some (bt151.1, bt151.2))) else (some ((⟨#[]⟩ : ByteArray), 3)))) else (some ((⟨#[]⟩ : ByteArray), 4)))
theorem chain_Encode.mono : ∀ a0 a1 a2 a3 k, LeO (chain_Encode.f k a0 a1 a2 a3) (chain_Encode.f (k + 1) a0 a1 a2 a3) := by
 intro a0 a1 a2 a3 k
 unfold chain_Encode.f
 repeat' first
   | (with_reducible exact head_Seal.mono _ _ _ _ _ _ _ _)
   | (with_reducible exact LeO.refl _)
   | (with_reducible exact LeO.none _)
   | (with_reducible refine LeO.ite ?_ ?_)
   | (with_reducible refine LeO.bind ?_ (fun _ => ?_))
   | exact head_Seal.mono _ _ _ _ _ _ _ _
   | exact LeO.none _
   | refine LeO.ite ?_ ?_
   | refine LeO.bind ?_ (fun _ => ?_)
set_option maxHeartbeats 8000000 in
set_option maxRecDepth 100000 in
theorem chain_Encode.calls (k : Nat) (a0_0 : Int) (a0_1 : Int) (a0_2 : ByteArray) (a1 : Int) (r1 : ByteArray) (r2 : Int) (w : World) (h : chain_Encode.f k a0_0 a0_1 a0_2 a1 = some (r1, r2)) :
  Calls Tryz.prog 5 #[.agg #[.int .i64 a0_0, .int .i64 a0_1, .string a0_2], .int .i64 a1] w fun e w' => e = .returned (.tuple #[.string r1, .int .i64 r2]) ∧ Below w.heap.size w w' := by
 have hu23 := Tryz.underlying23
 have hu48 := Tryz.underlying48
 have HB := as_ (Below.refl w.heap.size w)
 have H : ((disk_Size.f a1).bind fun t149 => (if t149 = true then ((chain_May.f a0_0 a0_1 a0_2 a1).bind fun t150 => (if t150 = true then ((head_Seal.f k 4 0 (a0_2.size : Int) a0_1 a0_0 a0_2 a1).bind fun bt151 => (some (bt151.1, bt151.2))) else (some ((⟨#[]⟩ : ByteArray), 3)))) else (some ((⟨#[]⟩ : ByteArray), 4)))) = some (r1, r2) := h
 clear h
 replace H := bM H
 obtain ⟨t149, A30, H⟩ := H
 replace H : (if t149 = true then ((chain_May.f a0_0 a0_1 a0_2 a1).bind fun t150 => (if t150 = true then ((head_Seal.f k 4 0 (a0_2.size : Int) a0_1 a0_0 a0_2 a1).bind fun bt151 => (some (bt151.1, bt151.2))) else (some ((⟨#[]⟩ : ByteArray), 3)))) else (some ((⟨#[]⟩ : ByteArray), 4))) = some (r1, r2) := H
 have A3 := Aside0.mk A30
 clear A30
 by_cases c4 : t149 = true
 rotate_left
 ·replace c4 := Bool.eq_false_iff.mpr c4
  subst c4
  have H1 : (some ((⟨#[]⟩ : ByteArray), 4)) = some (r1, r2) := by rw [if_neg (show ¬ (false = true) by decide)] at H; exact H
  clear H
  have H := H1
  clear H1
  simp only [Option.some.injEq, Prod.mk.injEq] at H
  obtain ⟨rfl, rfl⟩ := H
  go_enter Tryz.func5, Tryz.ntmps5
  go_wp2_with (first | ((with_reducible refine gate_dst (N := 2) rfl ?_); refine box_event (by rfl) (N := 2) (by rfl) (cs := #[.int .i64 a0_0, .int .i64 a0_1, .string a0_2]) (t := 23) gS ?_; intro gb148 hg w18 hbox hb; have BK148 := as_ (hbox); have GW148 := gw hg bA; have GE148 := gw hg bA; replace HB := as_ (below_step bA hb); clear hb hbox hg) | ((with_reducible refine gate_callee (f := 19) rfl ?_); refine goesL_ (some 7) rfl rfl Tryz.func19 (by kernel_rfl) rfl #[.int .i64 a1] rfl aO ?_; (with_reducible refine (disk_Size.calls a1 false _ A3.out).mono ?_); rintro e w19 ⟨rfl, hb⟩; refine ⟨_, rfl, ?_⟩; replace BK148 := bb BK148 hb; replace HB := as_ (below_step bA hb); (try clear hb); (try clear hb2); (try clear hk); (try clear hi)))
  go_ret2
  exact ⟨eW, by repeat (first | (with_reducible first | exact HB.out | apply below_alloc | apply pw_below_drewN | apply below_drew1 | refine below_set ?_ GE148.out) | exact HB.out)⟩
 
 subst c4
 have H1 : ((chain_May.f a0_0 a0_1 a0_2 a1).bind fun t150 => (if t150 = true then ((head_Seal.f k 4 0 (a0_2.size : Int) a0_1 a0_0 a0_2 a1).bind fun bt151 => (some (bt151.1, bt151.2))) else (some ((⟨#[]⟩ : ByteArray), 3)))) = some (r1, r2) := by rw [if_pos rfl] at H; exact H
 clear H
 have H := H1
 clear H1
 replace H := bM H
 obtain ⟨t150, A50, H⟩ := H
 replace H : (if t150 = true then ((head_Seal.f k 4 0 (a0_2.size : Int) a0_1 a0_0 a0_2 a1).bind fun bt151 => (some (bt151.1, bt151.2))) else (some ((⟨#[]⟩ : ByteArray), 3))) = some (r1, r2) := H
 have A5 := Aside0.mk A50
 clear A50
 by_cases c6 : t150 = true
 rotate_left
 ·replace c6 := Bool.eq_false_iff.mpr c6
  subst c6
  have H1 : (some ((⟨#[]⟩ : ByteArray), 3)) = some (r1, r2) := by rw [if_neg (show ¬ (false = true) by decide)] at H; exact H
  clear H
  have H := H1
  clear H1
  simp only [Option.some.injEq, Prod.mk.injEq] at H
  obtain ⟨rfl, rfl⟩ := H
  go_enter Tryz.func5, Tryz.ntmps5
  go_wp2_with (first | ((with_reducible refine gate_dst (N := 2) rfl ?_); refine box_event (by rfl) (N := 2) (by rfl) (cs := #[.int .i64 a0_0, .int .i64 a0_1, .string a0_2]) (t := 23) gS ?_; intro gb148 hg w14 hbox hb; have BK148 := as_ (hbox); have GW148 := gw hg bA; have GE148 := gw hg bA; replace HB := as_ (below_step bA hb); clear hb hbox hg) | ((with_reducible refine gate_callee (f := 19) rfl ?_); refine goesL_ (some 7) rfl rfl Tryz.func19 (by kernel_rfl) rfl #[.int .i64 a1] rfl aO ?_; (with_reducible refine (disk_Size.calls a1 true _ A3.out).mono ?_); rintro e w15 ⟨rfl, hb⟩; refine ⟨_, rfl, ?_⟩; replace BK148 := bb BK148 hb; replace HB := as_ (below_step bA hb); (try clear hb); (try clear hb2); (try clear hk); (try clear hi); obtain ⟨hcz16_0, hcz16_1, hcz16_2⟩ := zc3 BK148; obtain ⟨hfz16_0, hfz16_1, hfz16_2⟩ := zf3 BK148) | ((with_reducible refine gate_callee (f := 10) rfl ?_); refine goesL_ (some 11) rfl rfl Tryz.func10 (by kernel_rfl) rfl #[.agg #[.int .i64 a0_0, .int .i64 a0_1, .string a0_2], .int .i64 a1] rfl aO ?_; (with_reducible refine (chain_May.calls a0_0 a0_1 a0_2 a1 false _ A5.out).mono ?_); rintro e w17 ⟨rfl, hb⟩; refine ⟨_, rfl, ?_⟩; replace BK148 := bb BK148 hb; replace HB := as_ (below_step bA hb); (try clear hb); (try clear hb2); (try clear hk); (try clear hi)))
  go_ret2
  exact ⟨eW, by repeat (first | (with_reducible first | exact HB.out | apply below_alloc | apply pw_below_drewN | apply below_drew1 | refine below_set ?_ GE148.out) | exact HB.out)⟩
 subst c6
 have H1 : ((head_Seal.f k 4 0 (a0_2.size : Int) a0_1 a0_0 a0_2 a1).bind fun bt151 => (some (bt151.1, bt151.2))) = some (r1, r2) := by rw [if_pos rfl] at H; exact H
 clear H
 have H := H1
 clear H1
 replace H := bM H
 obtain ⟨⟨t151, t152⟩, A70, H⟩ := H
 replace H : (some (t151, t152)) = some (r1, r2) := H
 have A7 := Aside0.mk A70
 clear A70
 simp only [Option.some.injEq, Prod.mk.injEq] at H
 obtain ⟨rfl, rfl⟩ := H
 go_enter Tryz.func5, Tryz.ntmps5
 go_wp2_with (first | ((with_reducible refine gate_dst (N := 2) rfl ?_); refine box_event (by rfl) (N := 2) (by rfl) (cs := #[.int .i64 a0_0, .int .i64 a0_1, .string a0_2]) (t := 23) gS ?_; intro gb148 hg w8 hbox hb; have BK148 := as_ (hbox); have GW148 := gw hg bA; have GE148 := gw hg bA; replace HB := as_ (below_step bA hb); clear hb hbox hg) | ((with_reducible refine gate_callee (f := 19) rfl ?_); refine goesL_ (some 7) rfl rfl Tryz.func19 (by kernel_rfl) rfl #[.int .i64 a1] rfl aO ?_; (with_reducible refine (disk_Size.calls a1 true _ A3.out).mono ?_); rintro e w9 ⟨rfl, hb⟩; refine ⟨_, rfl, ?_⟩; replace BK148 := bb BK148 hb; replace HB := as_ (below_step bA hb); (try clear hb); (try clear hb2); (try clear hk); (try clear hi); obtain ⟨hcz10_0, hcz10_1, hcz10_2⟩ := zc3 BK148; obtain ⟨hfz10_0, hfz10_1, hfz10_2⟩ := zf3 BK148) | ((with_reducible refine gate_callee (f := 10) rfl ?_); refine goesL_ (some 11) rfl rfl Tryz.func10 (by kernel_rfl) rfl #[.agg #[.int .i64 a0_0, .int .i64 a0_1, .string a0_2], .int .i64 a1] rfl aO ?_; (with_reducible refine (chain_May.calls a0_0 a0_1 a0_2 a1 true _ A5.out).mono ?_); rintro e w11 ⟨rfl, hb⟩; refine ⟨_, rfl, ?_⟩; replace BK148 := bb BK148 hb; replace HB := as_ (below_step bA hb); (try clear hb); (try clear hb2); (try clear hk); (try clear hi); obtain ⟨hcz12_0, hcz12_1, hcz12_2⟩ := zc3 BK148; obtain ⟨hfz12_0, hfz12_1, hfz12_2⟩ := zf3 BK148) | ((with_reducible refine gate_callee (f := 20) rfl ?_); refine goesL_ (some 24) rfl rfl Tryz.func20 (by kernel_rfl) rfl #[.agg #[.int .i64 4, .int .i64 0, .int .i64 (a0_2.size : Int), .int .i64 a0_1, .int .i64 a0_0], .string a0_2, .int .i64 a1] rfl aO ?_; (with_reducible refine (head_Seal.calls k 4 0 (a0_2.size : Int) a0_1 a0_0 a0_2 a1 t151 t152 _ A7.out).mono ?_); rintro e w13 ⟨rfl, hb⟩; refine ⟨_, rfl, ?_⟩; replace BK148 := bb BK148 hb; replace HB := as_ (below_step bA hb); (try clear hb); (try clear hb2); (try clear hk); (try clear hi)))
 go_ret2
 exact ⟨eW, by repeat (first | (with_reducible first | exact HB.out | apply below_alloc | apply pw_below_drewN | apply below_drew1 | refine below_set ?_ GE148.out) | exact HB.out)⟩
/-! ### withyref06_Size: function 12 -/
def withyref06_Size.f (a0 : Int) : Option (Bool) := if a0 = 128 then (some true) else (if a0 = 256 then (some true) else (if a0 = 512 then (some true) else (some (a0 == 1024))))
set_option maxHeartbeats 8000000 in
set_option maxRecDepth 100000 in
theorem withyref06_Size.calls (a0 : Int) (r : Bool) (w : World) (h : withyref06_Size.f a0 = some r) :
  Calls Tryz.prog 12 #[.int .i64 a0] w fun e w' => e = .returned (.bool r) ∧ Drawn0 w w' := by
 have H : (if a0 = 128 then (some true) else (if a0 = 256 then (some true) else (if a0 = 512 then (some true) else (some (a0 == 1024))))) = some r := h
 clear h
 by_cases c2 : a0 = 128
 ·rw [if_pos c2] at H
  have c2b0 : (a0 == 128) = true := beq_iff_eq.mpr c2
  have c2b1 : (a0 != 128) = false := bne_eq_false_iff_eq.mpr c2
  clear c2
  obtain rfl := Option.some.inj H
  go_enter Tryz.func12, Tryz.ntmps12
  go_wp2
  go_ret
  exact ⟨by first | rfl | (simp; done) | (simp [*]; done), by repeat (first | exact Drawn0.refl _ | apply Drawn0.step)⟩
 rw [if_neg c2] at H
 have c2b0 : (a0 == 128) = false := beq_eq_false_iff_ne.mpr c2
 have c2b1 : (a0 != 128) = true := bne_iff_ne.mpr c2
 by_cases c3 : a0 = 256
 ·rw [if_pos c3] at H
  have c3b0 : (a0 == 256) = true := beq_iff_eq.mpr c3
  have c3b1 : (a0 != 256) = false := bne_eq_false_iff_eq.mpr c3
  clear c3
  obtain rfl := Option.some.inj H
  go_enter Tryz.func12, Tryz.ntmps12
  go_wp2
  go_ret
  exact ⟨by first | rfl | (simp; done) | (simp [*]; done), by repeat (first | exact Drawn0.refl _ | apply Drawn0.step)⟩
 rw [if_neg c3] at H
 have c3b0 : (a0 == 256) = false := beq_eq_false_iff_ne.mpr c3
 have c3b1 : (a0 != 256) = true := bne_iff_ne.mpr c3
 by_cases c4 : a0 = 512
 rotate_left
 ·rw [if_neg c4] at H
  have c4b0 : (a0 == 512) = false := beq_eq_false_iff_ne.mpr c4
  have c4b1 : (a0 != 512) = true := bne_iff_ne.mpr c4
  obtain rfl := Option.some.inj H
  go_enter Tryz.func12, Tryz.ntmps12
  go_wp2
  go_ret
  exact ⟨by first | rfl | (simp; done) | (simp [*]; done), by repeat (first | exact Drawn0.refl _ | apply Drawn0.step)⟩
 
 rw [if_pos c4] at H
 have c4b0 : (a0 == 512) = true := beq_iff_eq.mpr c4
 have c4b1 : (a0 != 512) = false := bne_eq_false_iff_eq.mpr c4
 clear c4
 obtain rfl := Option.some.inj H
 go_enter Tryz.func12, Tryz.ntmps12
 go_wp2
 go_ret
 exact ⟨by first | rfl | (simp; done) | (simp [*]; done), by repeat (first | exact Drawn0.refl _ | apply Drawn0.step)⟩
end Go.Proofs.YtggfnlnonigkiaaGreatDoor.P
