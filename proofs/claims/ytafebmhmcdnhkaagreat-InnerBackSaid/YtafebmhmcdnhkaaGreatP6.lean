/- What is proved here: for functions of the Go text, a Lean function each, and that the call comes to just what it answers. Conditions: as each contract names them. Written by wip/tools/myprint.py, a driver of the print of the kit. -/
import Derived.Test.YtafebmhmcdnhkaaGreatP0
import Derived.Test.YtafebmhmcdnhkaaGreatP3
import Derived.Test.YtafebmhmcdnhkaaGreatP4
import Derived.Test.YtafebmhmcdnhkaaGreatP5
import Derived.Test.YtafebmhmcdnhkaaGreatWAbbr
namespace Go.Proofs.YtafebmhmcdnhkaaGreat.P
open Go.RowKit Go.Proofs.YtafebmhmcdnhkaaGreatW.PrintWords Go.Proofs.YtafebmhmcdnhkaaGreatW.PrintLast Go.Proofs.YtafebmhmcdnhkaaGreatW.PrintMore Go.Proofs.YtafebmhmcdnhkaaGreatW.Abbr
-- PACKED
attribute [local go_sem] max2_int min2_int max_two min_two max_three min_three max_four min_four Go.Proofs.YtafebmhmcdnhkaaGreatLaws.str_leq Go.Proofs.YtafebmhmcdnhkaaGreatLaws.str_gtr Go.Proofs.YtafebmhmcdnhkaaGreatLaws.str_geq Go.Proofs.YtafebmhmcdnhkaaGreatLaws.max2_str Go.Proofs.YtafebmhmcdnhkaaGreatLaws.min2_str   -- for this text's walks alone
set_option linter.unusedVariables false
set_option linter.unusedSimpArgs false

/-! ### sum_More: function 103, by hand -/
def sum_tab : List Int := (List.range 256).map fun i : Nat => sum_stepN 8 (i : Int)
def sum_part (i : Nat) : List Int := (List.range 256).map fun j : Nat => if j < i then sum_stepN 8 (j : Int) else 0
theorem sum_part_zero : sum_part 0 = List.replicate 256 0 := by
 unfold sum_part
 refine List.ext_getElem (by rw [List.length_map, List.length_range, List.length_replicate]) (fun n h1 h2 => ?_)
 rw [List.getElem_map, List.getElem_range, List.getElem_replicate, if_neg (Nat.not_lt_zero _)]
theorem sum_part_all : sum_part 256 = sum_tab := by
 unfold sum_part sum_tab
 refine List.map_congr_left (fun j hj => ?_)
 rw [if_pos (List.mem_range.1 hj)]
theorem sum_part_succ (i : Nat) (h : i < 256) : (sum_part i).set i (sum_stepN 8 (i : Int)) = sum_part (i + 1) := by
 unfold sum_part
 refine List.ext_getElem (by rw [List.length_set, List.length_map, List.length_map]) (fun n h1 h2 => ?_)
 rw [List.getElem_set]
 simp only [List.getElem_map, List.getElem_range]
 by_cases e : i = n
 ·subst e
  rw [if_pos rfl, if_pos (by omega)]
 rw [if_neg e]
 by_cases h3 : n < i
 rotate_left
 ·rw [if_neg h3, if_neg (by omega)]
 rw [if_pos h3, if_pos (by omega)]
def sum_vals (l : List Int) : Array Value := (l.map (Value.int .u32)).toArray
theorem sum_zero_vals : sum_vals (sum_part 0) = Array.replicate 256 (.int .u32 0) := by
 rw [sum_part_zero]
 unfold sum_vals
 rw [List.map_replicate]
 rfl
theorem sum_vals_set (i : Nat) (h : i < 256) : (sum_vals (sum_part i)).setIfInBounds i (.int .u32 (sum_stepN 8 (i : Int))) = sum_vals (sum_part (i + 1)) := by
 unfold sum_vals
 rw [← sum_part_succ i h]
 simp
theorem sum_there {w : World} {g n : Nat} {t : TypeId} {cs : Array Value} (h : w.heap[g]? = some (.cells cs t (0, 0))) (hn : cs.size = n) : w.there g 0 n := fun j hj => by
 rw [Nat.zero_add, blk_cell h j, Array.getElem?_eq_getElem (by omega)]
 exact ⟨rfl, blk_frozen h j⟩
theorem sum_one : (sum_vals sum_tab).all (·.oneCell') = true := by
 rw [Array.all_eq_true_iff_forall_mem]
 intro v hv
 unfold sum_vals at hv
 obtain ⟨x, _, rfl⟩ := List.mem_map.1 (by simpa using hv)
 rfl
theorem set_all_heap {g : Nat} {t : TypeId} : ∀ (vs pre cur : List Value) (w : World), w.heap[g]? = some (.cells (pre ++ cur).toArray t (0, 0)) → cur.length = vs.length → (w.setCells g pre.length vs).heap[g]? = some (.cells (pre ++ vs).toArray t (0, 0))
 | [], pre, cur, w, h, hl => by
  obtain rfl : cur = [] := List.length_eq_zero_iff.1 (by simpa using hl)
  exact h
 | v :: vs, pre, [], w, h, hl => by simp at hl
 | v :: vs, pre, c :: cur, w, h, hl => by
  have := set_all_heap vs (pre ++ [v]) cur (w.setCell ⟨g, pre.length, none⟩ v) (blk_put h pre.length v (by simp)) (by simpa using hl)
  rw [List.append_assoc, List.length_append] at this
  exact this
theorem set_all_below {g n : Nat} {w0 : World} (hg : n ≤ g) : ∀ (vs : List Value) (o : Nat) (w : World), Below n w0 w → Below n w0 (w.setCells g o vs)
 | [], _, _, h => h
 | v :: vs, o, w, h => set_all_below hg vs (o + 1) _ (h.setCell (p := ⟨g, o, none⟩) hg v)
theorem sum_index (W : World) (g : Nat) (q : IntKind) (n : Nat) (h : n < 256) : (Instr.indexAt 161 (.pointer (some ⟨g, 0, none⟩)) (.int q (n : Int))).run Tryz.prog W = .ok (.pointer (some ⟨g, n, none⟩)) W := by
 have hu : Tryz.prog.underlying 161 = some (.array (Tryz.prog.arrayLen 161) (Tryz.prog.elem 161)) := by kernel_rfl
 have hl : Tryz.prog.arrayLen 161 = 256 := by kernel_rfl
 have he : Tryz.prog.elem 161 = 112 := by kernel_rfl
 obtain ⟨i0, hi, hz, hz1, _⟩ := info_parts (show (Tryz.prog.info? 112).map (fun i => (i.zero, i.size, i.bytes)) = some (some (.int .u32 0), 1, 4) by kernel_rfl)
 rw [run_indexAt_array (h := hu), hl, he, if_pos (by omega)]
 simp [sizeOf, typeInfo, hi, hz1, Result.andThen, Addr.add] <;> omega
set_option maxRecDepth 100000 in
set_option maxHeartbeats 4000000 in
theorem sum_table.calls (w : World) : Calls Tryz.prog 123 #[] w fun e w' => e = .returned (.agg (sum_vals sum_tab)) ∧ Below w.heap.size w w' := by
 have HB := as_ (Below.refl w.heap.size w)
 go_enter Tryz.func123, Tryz.ntmps123
 go_wp2_with (first | ((with_reducible refine gate_dst (N := 0) rfl ?_); refine box_event ?hg (N := 0) ?hd (cs := Array.replicate 256 (.int .u32 0)) (t := 161) ?hr ?_; (case hd => rfl); (case hg => rfl); (case hr => first | (go_simp; done) | (go_simp; rfl)); intro ga hg w0 hbox hb; have BA := Aside0.mk hbox; have GA := gw hg bA; replace HB := as_ (below_step bA hb); clear hb hbox hg) | ((with_reducible refine gate_dst (N := 1) rfl ?_); refine box_event ?hg (N := 1) ?hd (cs := Array.replicate 256 (.int .u32 0)) (t := 161) ?hr ?_; (case hd => rfl); (case hg => rfl); (case hr => first | (go_simp; done) | (go_simp; rfl)); intro gb hg w1 hbox hb; have n0_ := as_ (below_step bA hb); have n1_ := Aside0.mk hbox; have n2_ := gw hg bA; have n3_ := as_ (blk_below BA.out hb); have n4_ := as_ (show ga ≠ gb by rw [hg]; exact Nat.ne_of_lt (blk_lt BA.out)); clear HB BA; have HB := n0_; have BK := n1_; have GE := n2_; have BA := n3_; have NE := n4_; clear n0_ n1_ n2_ n3_ n4_; clear hb hbox hg))
 go_loopg [3] 257 (fun kq v3 w' => ∃ (j : Nat), v3 = .int .i64 (j : Int) ∧ Aside0 (j ≤ 256 ∧ kq + j = 257) ∧ Aside0 (w'.heap[gb]? = some (.cells (sum_vals (sum_part j)) 161 (0, 0))) ∧ Aside0 (w'.heap[ga]? = some (.cells (Array.replicate 256 (.int .u32 0)) 161 (0, 0))) ∧ Aside0 (Below w.heap.size w w'))
 case atStart => exact ⟨0, rfl, ⟨⟨by omega, rfl⟩⟩, ⟨by rw [sum_zero_vals]; exact BK.out⟩, BA, HB⟩
 case round =>
  clear HB BK BA
  obtain ⟨j, rfl, HX, BK, BA, HB⟩ := hrel
  by_cases c : j < 256
  rotate_left
  ·have c1 : decide ((j : Int) < 256) = false := decide_eq_false (by omega)
   obtain rfl : j = 256 := by have := HX.out; omega
   clear c
   have hu : Tryz.prog.underlying 161 = some (.array 256 112) := by kernel_rfl
   have hi : (Tryz.prog.info? 161).map (·.size) = some 256 := by kernel_rfl
   have hsz : (sum_vals sum_tab).size = 256 := by unfold sum_vals sum_tab; simp only [List.size_toArray, List.length_map, List.length_range]
   rw [sum_part_all] at BK
   have hrow := as_ (sum_there BA.out (by rw [Array.size_replicate]))
   go_wp2_with (first | ((with_reducible refine gate_dst (N := 12) rfl ?_); refine wpList_load_row rfl 161 (.tmp 1) rfl gb rfl 161 _ _ _ BK.out hu rfl (by rw [hsz]; exact hi) ?_) | (refine wpList_store_mid rfl 161 (.tmp 0) (.tmp 12) rfl ga 0 (sum_vals sum_tab) rfl rfl (by rw [hsz]; exact hrow.out) (by rw [hsz]; exact hi) sum_one ?_))
   have hBA : (wr.setCells ga 0 (sum_vals sum_tab).toList).heap[ga]? = some (.cells (sum_vals sum_tab) 161 (0, 0)) := set_all_heap (sum_vals sum_tab).toList [] (Array.replicate 256 (.int .u32 0)).toList wr (by exact BA.out) (by rw [Array.length_toList, Array.length_toList, hsz, Array.size_replicate])
   have hBB : Below w.heap.size w (wr.setCells ga 0 (sum_vals sum_tab).toList) := set_all_below GA.out _ _ _ HB.out
   exact bodyPost_ret (results_cell_row rfl _ _ ga 161 _ _ _ rfl hBA hu rfl (by rw [hsz]; exact hi)) rfl ⟨rfl, hBB⟩
  have c1 : decide ((j : Int) < 256) = true := decide_eq_true (by omega)
  have hix : ∀ W : World, (Instr.indexAt 161 (.pointer (some ⟨gb, 0, none⟩)) (.int .i64 (j : Int))).run Tryz.prog W = .ok (.pointer (some ⟨gb, j, none⟩)) W := fun W => sum_index W gb .i64 j c
  have HC := Aside0.mk c
  clear c
  go_wp2_with fail
  refine (sum_step.calls _ (sum_stepN 8 (j : Int)) _ (by rw [show ((j : Int) % 4294967296) = j by have := HC.out; omega]; rfl)).mono ?_
  rintro e w2 ⟨rfl, hb⟩
  have n0_ := as_ (below_step bA hb : Below w.heap.size w w2)
  have n1_ := as_ (blk_below BK.out hb)
  have n2_ := as_ (blk_below BA.out hb)
  clear HB BK BA hb
  have HB := n0_
  have BK := n1_
  have BA := n2_
  clear n0_ n1_ n2_
  obtain ⟨v, hv⟩ : ∃ v, w2.cell? ⟨gb, j, none⟩ = some v := by
   refine ⟨_, (blk_cell BK.out j).trans (Array.getElem?_eq_getElem ?_)⟩
   unfold sum_vals sum_part
   simp only [List.size_toArray, List.length_map, List.length_range]
   exact HC.out
  have hf := blk_frozen BK.out j
  go_wp2
  go_roundg (256 - j)
  case measure => have := HX.out; have := HC.out; omega
  case rel =>
   refine ⟨j + 1, ?_, ⟨by have := HX.out; have := HC.out; exact ⟨by omega, by omega⟩⟩, ⟨?_⟩, ⟨?_⟩, ⟨below_set HB.out GE.out⟩⟩
   ·have h1 := HC.out
    rw [show wrap64 ((j : Int) + 1) = ((j + 1 : Nat) : Int) by unfold wrap64; omega]
   ·exact blk_put BK.out j _ (sum_vals_set j HC.out)
   ·exact blk_far BA.out (by exact NE.out) _
def sum_turn (r b : Int) : Int := Go.bits .xor .u32 (sum_stepN 8 (Go.bits .xor .u8 (r % 256) b)) (r / 256)
def sum_More.f (a0 : Int) (a1 : ByteArray) : Option (Int) := if a1.size ≤ 9223372036854775806 then some (Go.bits .xor .u32 IntKind.u32.max ((bytesOf a1).foldl sum_turn (Go.bits .xor .u32 IntKind.u32.max a0))) else none
theorem sum_tab_at (n : Nat) (h : n < 256) : (sum_vals sum_tab)[n]? = some (.int .u32 (sum_stepN 8 (n : Int))) := by
 unfold sum_vals sum_tab
 simp only [List.map_map, List.getElem?_toArray, List.getElem?_map, List.getElem?_range h, Option.map_some, Function.comp]
set_option maxRecDepth 100000 in
set_option maxHeartbeats 4000000 in
theorem sum_More.calls (a0 : Int) (a1 : ByteArray) (r : Int) (w : World) (h : sum_More.f a0 a1 = some r) :
  Calls Tryz.prog 103 #[.int .u32 a0, .string a1] w fun e w' => e = .returned (.int .u32 r) ∧ Below w.heap.size w w' := by
 unfold sum_More.f at h
 by_cases hs : a1.size ≤ 9223372036854775806
 case neg => rw [if_neg hs] at h; cases h
 rw [if_pos hs] at h
 have HSZ := Aside0.mk hs
 clear hs
 have H := as_ (Option.some.inj h)
 clear h
 have HB := as_ (Below.refl w.heap.size w)
 have hi : (Tryz.prog.info? 161).map (·.size) = some 256 := by kernel_rfl
 have hsz : (sum_vals sum_tab).size = 256 := by unfold sum_vals sum_tab; simp only [List.size_toArray, List.length_map, List.length_range]
 obtain ⟨x0, hx0⟩ : ∃ x0, Go.bits .xor .u32 IntKind.u32.max a0 = x0 := ⟨_, rfl⟩
 rw [hx0] at H
 go_enter Tryz.func103, Tryz.ntmps103
 go_wp2_with fail
 refine (sum_table.calls _).mono ?_
 rintro e w1 ⟨rfl, hb⟩
 have n0_ := as_ (below_step bA hb : Below w.heap.size w w1)
 clear HB hb
 have HB := n0_
 clear n0_
 go_wp2_with (first | ((with_reducible refine gate_dst (N := 5) rfl ?_); refine box_event ?hg (N := 5) ?hd (cs := Array.replicate 256 (.int .u32 0)) (t := 161) ?hr ?_; (case hd => rfl); (case hg => rfl); (case hr => first | (go_simp; done) | (go_simp; rfl)); intro gb hg w2 hbox hb; have BK := Aside0.mk hbox; have GE := gw hg bA; have HT := as_ (sum_there hbox (by rw [Array.size_replicate])); replace HB := as_ (below_step bA hb); clear hb hbox hg) | (refine wpList_store_mid rfl 161 (.tmp 5) (.tmp 8) rfl gb 0 (sum_vals sum_tab) rfl rfl (by rw [hsz]; exact HT.out) (by rw [hsz]; exact hi) sum_one ?_; have hBK : (w2.setCells gb 0 (sum_vals sum_tab).toList).heap[gb]? = some (.cells (sum_vals sum_tab) 161 (0, 0)) := set_all_heap (sum_vals sum_tab).toList [] (Array.replicate 256 (.int .u32 0)).toList w2 (by exact BK.out) (by rw [Array.length_toList, Array.length_toList, hsz, Array.size_replicate]); have hBB : Below w.heap.size w (w2.setCells gb 0 (sum_vals sum_tab).toList) := set_all_below GE.out _ _ _ HB.out; generalize w2.setCells gb 0 (sum_vals sum_tab).toList = w3 at hBK hBB ⊢; clear BK HB HT; have BK := Aside0.mk hBK; have HB := Aside0.mk hBB; clear hBK hBB))
 go_loopg [6, 13] (a1.size + 1) (fun kq v6 v13 w' => ∃ (j : Nat), v6 = .int .u32 ((List.take j (bytesOf a1)).foldl sum_turn x0) ∧ v13 = .int .i64 (j : Int) ∧ Aside0 (j ≤ a1.size ∧ kq + j = a1.size + 1) ∧ Aside0 (w'.heap[gb]? = some (.cells (sum_vals sum_tab) 161 (0, 0))) ∧ Aside0 (Below w.heap.size w w'))
 case atStart => exact ⟨0, by rw [List.take_zero]; rfl, rfl, ⟨by omega, by omega⟩, BK, HB⟩
 case round =>
  clear HB BK
  obtain ⟨j, rfl, rfl, HX, BK, HB⟩ := hrel
  obtain ⟨x, hx⟩ : ∃ x, (List.take j (bytesOf a1)).foldl sum_turn x0 = x := ⟨_, rfl⟩
  rw [hx]
  have HXX := Aside0.mk hx
  clear hx
  by_cases c : j < a1.size
  rotate_left
  ·have c1 : decide ((j : Int) < (a1.size : Int)) = false := decide_eq_false (by omega)
   have c2 : decide (j < a1.size) = false := decide_eq_false c
   have HC := Aside0.mk c
   clear c
   go_wp2
   go_ret
   refine ⟨?_, by repeat (first | exact HB.out | apply below_alloc | apply pw_below_drewN | apply below_drew1)⟩
   have ej : j = a1.size := by have := HX.out; have := HC.out; omega
   rw [← H.out, ← HXX.out, ej, List.take_of_length_le (by rw [bytesOf_length]; exact Nat.le_refl _)]
   rfl
 
 
  have c0 : ((j : Int) < (a1.size : Int)) = True := eq_true (by omega)
  have c00 : (0 ≤ (j : Int)) = True := eq_true (by omega)
  have c1 : decide ((j : Int) < (a1.size : Int)) = true := decide_eq_true (by omega)
  have c2 : decide (j < a1.size) = true := decide_eq_true c
  have hbt : ∀ h : j < a1.size, ((a1[j]'h).toNat : Int) = bt a1 (j : Int) := bt_at a1 (j : Int)
  obtain ⟨b, hb⟩ : ∃ b, bt a1 (j : Int) = b := ⟨_, rfl⟩
  rw [hb] at hbt
  have hlo := (bits_within .xor .u8 (x % 256) b).1
  have hhi := (bits_within .xor .u8 (x % 256) b).2
  obtain ⟨n, hn⟩ : ∃ n : Nat, Go.bits .xor .u8 (x % 256) b = (n : Int) := Int.eq_ofNat_of_zero_le hlo
  have hn2 : n < 256 := by rw [hn] at hhi; have : ((n : Int) ≤ 255) := hhi; omega
  have hcl : wr.cell? ⟨gb, n, none⟩ = some (.int .u32 (sum_stepN 8 (n : Int))) := (blk_cell BK.out n).trans (sum_tab_at n hn2)
  have HN := Aside0.mk hn
  have HC := Aside0.mk c
  have HBT := Aside0.mk hb
  have hn2' : ((n : Int) < 256) = True := eq_true (by omega)
  clear c hlo hhi hn2 hb
  go_wp2
  go_roundg (a1.size - j)
  case measure => have := HX.out; have := HC.out; omega
  case rel =>
   refine ⟨j + 1, ?_, ?_, ⟨by have := HX.out; have := HC.out; omega, by have := HX.out; have := HC.out; omega⟩, BK, HB⟩
   ·have hlen : j < (bytesOf a1).length := by rw [bytesOf_length]; exact HC.out
    have e1 : (bytesOf a1)[j] = b := by
     rw [← HBT.out, ← rd_bytesOf]
     unfold rd
     simp [List.getD_eq_getElem?_getD, List.getElem?_eq_getElem hlen]
    rw [List.take_succ_eq_append_getElem hlen, List.foldl_append, HXX.out, e1]
    show _ = Value.int .u32 (sum_turn x b)
    unfold sum_turn
    rw [HN.out]
   ·have h1 := HC.out
    have h2 : a1.size ≤ 9223372036854775806 := HSZ.out
    rw [show wrap64 ((j : Int) + 1) = ((j + 1 : Nat) : Int) by unfold wrap64; omega]
/-! ### sum_Table: function 70 -/
def sum_Table.f (a0 : ByteArray) : Option (Int) := (sum_More.f 0 a0).bind fun t228 => (some t228)
set_option maxHeartbeats 8000000 in
set_option maxRecDepth 100000 in
theorem sum_Table.calls (a0 : ByteArray) (r : Int) (w : World) (h : sum_Table.f a0 = some r) :
  Calls Tryz.prog 70 #[.string a0] w fun e w' => e = .returned (.int .u32 r) ∧ Below w.heap.size w w' := by
 have HB := as_ (Below.refl w.heap.size w)
 have H : ((sum_More.f 0 a0).bind fun t228 => (some t228)) = some r := h
 clear h
 obtain ⟨t228, A2, H⟩ := bN H
 (try dsimp only at H)
 obtain rfl := Option.some.inj H
 go_enter Tryz.func70, Tryz.ntmps70
 go_wp2_with (first | ((with_reducible refine gate_callee (f := 103) rfl ?_); refine goesL_ (some 4) rfl rfl Tryz.func103 (by kernel_rfl) rfl #[.int .u32 0, .string a0] rfl aO ?_; (with_reducible refine (sum_More.calls 0 a0 t228 _ A2.out).mono ?_); rintro e w3 ⟨rfl, hb⟩; refine ⟨_, rfl, ?_⟩; replace HB := as_ (below_step bA hb); (try clear hb); (try clear hi)))
 go_ret
 exact ⟨eW, bA⟩

/-! ### head_Seal: function 35 -/
def head_Seal.f (k : Nat) (a0_0 : Int) (a0_1 : Int) (a0_2 : Int) (a0_3 : Int) (a0_4 : Int) (a1 : ByteArray) (a2 : Int) : Option (ByteArray × Int) := (head_may.f a0_0 a0_1 a0_2 a0_3 a0_4 a1 a2).bind fun t230 => (if t230 = 0 then ((head_bytes.f k (([a0_0, a0_1, a0_2, wrap64 (Int.tdiv a0_2 256)] : List Int))).bind fun t234 => ((word_Four.f ((a0_3) % 4294967296)).bind fun t235 => (if t234.size + t235.size ≤ 9223372036854775807 then ((word_Four.f ((a0_4) % 4294967296)).bind fun t236 => (if (t234 ++ t235).size + t236.size ≤ 9223372036854775807 then (if ((t234 ++ t235) ++ t236).size + 4 ≤ 9223372036854775807 then (if (((t234 ++ t235) ++ t236) ++ (⟨#[0, 0, 0, 0]⟩ : ByteArray)).size + a1.size ≤ 9223372036854775807 then ((strings_Repeat.f (⟨#[0]⟩ : ByteArray) (wrap64 (a2 - (((((t234 ++ t235) ++ t236) ++ (⟨#[0, 0, 0, 0]⟩ : ByteArray)) ++ a1).size : Int)))).bind fun t237 => (if ((((t234 ++ t235) ++ t236) ++ (⟨#[0, 0, 0, 0]⟩ : ByteArray)) ++ a1).size + t237.size ≤ 9223372036854775807 then (if 0 ≤ 12 then (if 12 ≤ ((((((t234 ++ t235) ++ t236) ++ (⟨#[0, 0, 0, 0]⟩ : ByteArray)) ++ a1) ++ t237).size : Int) then ((sum_Table.f (((((t234 ++ t235) ++ t236) ++ (⟨#[0, 0, 0, 0]⟩ : ByteArray)) ++ a1) ++ t237)).bind fun t238 => ((word_Four.f t238).bind fun t239 => (if ((((((t234 ++ t235) ++ t236) ++ (⟨#[0, 0, 0, 0]⟩ : ByteArray)) ++ a1) ++ t237).extract 0 12).size + t239.size ≤ 9223372036854775807 then (if 16 ≤ ((((((t234 ++ t235) ++ t236) ++ (⟨#[0, 0, 0, 0]⟩ : ByteArray)) ++ a1) ++ t237).size : Int) then (if (((((((t234 ++ t235) ++ t236) ++ (⟨#[0, 0, 0, 0]⟩ : ByteArray)) ++ a1) ++ t237).extract 0 12) ++ t239).size + ((((((t234 ++ t235) ++ t236) ++ (⟨#[0, 0, 0, 0]⟩ : ByteArray)) ++ a1) ++ t237).extract 16 (((((t234 ++ t235) ++ t236) ++ (⟨#[0, 0, 0, 0]⟩ : ByteArray)) ++ a1) ++ t237).size).size ≤ 9223372036854775807 then (some ((((((((t234 ++ t235) ++ t236) ++ (⟨#[0, 0, 0, 0]⟩ : ByteArray)) ++ a1) ++ t237).extract 0 12) ++ t239) ++ ((((((t234 ++ t235) ++ t236) ++ (⟨#[0, 0, 0, 0]⟩ : ByteArray)) ++ a1) ++ t237).extract 16 (((((t234 ++ t235) ++ t236) ++ (⟨#[0, 0, 0, 0]⟩ : ByteArray)) ++ a1) ++ t237).size), 0)) else (none)) else (none)) else (none)))) else (none)) else (none)) else (none))) else (none)) else (none)) else (none))) else (none)))) else (some ((⟨#[]⟩ : ByteArray), t230)))
theorem head_Seal.mono : ∀ a0 a1 a2 a3 a4 a5 a6 k, LeO (head_Seal.f k a0 a1 a2 a3 a4 a5 a6) (head_Seal.f (k + 1) a0 a1 a2 a3 a4 a5 a6) := by
 intro a0 a1 a2 a3 a4 a5 a6 k
 unfold head_Seal.f
 repeat' first
   | (with_reducible exact head_bytes.mono _ _)
   | (with_reducible exact LeO.refl _)
   | (with_reducible exact LeO.none _)
   | (with_reducible refine LeO.ite ?_ ?_)
   | (with_reducible refine LeO.bind ?_ (fun _ => ?_))
   | exact head_bytes.mono _ _
   | exact LeO.none _
   | refine LeO.ite ?_ ?_
   | refine LeO.bind ?_ (fun _ => ?_)
def head_Seal.T4 : Bool × List (List Nat × List Nat) := (true, [([], []), ([0], [0]), ([], []), ([2], [2]), ([], []), ([4], [4]), ([], []), ([6], [6]), ([7], [7]), ([1, 3, 5, 8], [1, 3, 5, 8]), ([9], [9]), ([], []), ([11], [11]), ([12], [12]), ([13, 10], [13]), ([10, 14], [10, 14]), ([], []), ([16], [16]), ([17], [17]), ([18, 14], [18]), ([15, 19], [15, 19]), ([20], [20]), ([], []), ([21, 22], [21, 22]), ([23, 19, 0, 1, 2, 3, 4, 5, 6, 7, 8, 9, 10, 11, 12, 13, 14, 15, 16, 17, 18, 19, 20, 21, 22, 23], [23])])
def head_Seal.B4 : List Nat := [0, 1, 0, 4, 0, 16, 0, 64, 192, 511, 1023, 0, 2048, 6144, 16383, 32767, 0, 65536, 196608, 491519, 1048575, 2097151, 0, 8388607, 16777215]
theorem head_Seal.tab4 : rtab .any (opsOf Tryz.f35 4) = head_Seal.T4 := by kernel_rfl
theorem head_Seal.bits4 : waitsOk head_Seal.T4.2 head_Seal.B4 = true := by kernel_rfl
def head_Seal.T6 : Bool × List (List Nat × List Nat) := (true, [([], []), ([0], [0]), ([], []), ([2], [2]), ([3, 3], [3]), ([1, 4], [1, 4]), ([], []), ([6], [6]), ([5, 7], [5, 7]), ([8, 4, 0, 1, 2, 3, 4, 5, 6, 7, 8], [8]), ([9, 0, 1, 2, 3, 4, 5, 6, 7, 8, 9], [])])
def head_Seal.B6 : List Nat := [0, 1, 0, 4, 12, 31, 0, 64, 255, 511, 1023]
theorem head_Seal.tab6 : rtab .any (opsOf Tryz.f35 6) = head_Seal.T6 := by kernel_rfl
theorem head_Seal.bits6 : waitsOk head_Seal.T6.2 head_Seal.B6 = true := by kernel_rfl
set_option maxHeartbeats 8000000 in
set_option maxRecDepth 100000 in
theorem head_Seal.calls (k : Nat) (a0_0 : Int) (a0_1 : Int) (a0_2 : Int) (a0_3 : Int) (a0_4 : Int) (a1 : ByteArray) (a2 : Int) (r1 : ByteArray) (r2 : Int) (w : World) (h : head_Seal.f k a0_0 a0_1 a0_2 a0_3 a0_4 a1 a2 = some (r1, r2)) :
  Calls Tryz.prog 35 #[.agg #[.int .i64 a0_0, .int .i64 a0_1, .int .i64 a0_2, .int .i64 a0_3, .int .i64 a0_4], .string a1, .int .i64 a2] w fun e w' => e = .returned (.tuple #[.string r1, .int .i64 r2]) ∧ Below w.heap.size w w' := by
 have hu71 := Tryz.underlying71
 have HB := as_ (Below.refl w.heap.size w)
 have H : ((head_may.f a0_0 a0_1 a0_2 a0_3 a0_4 a1 a2).bind fun t230 => (if t230 = 0 then ((head_bytes.f k (([a0_0, a0_1, a0_2, wrap64 (Int.tdiv a0_2 256)] : List Int))).bind fun t234 => ((word_Four.f ((a0_3) % 4294967296)).bind fun t235 => (if t234.size + t235.size ≤ 9223372036854775807 then ((word_Four.f ((a0_4) % 4294967296)).bind fun t236 => (if (t234 ++ t235).size + t236.size ≤ 9223372036854775807 then (if ((t234 ++ t235) ++ t236).size + 4 ≤ 9223372036854775807 then (if (((t234 ++ t235) ++ t236) ++ (⟨#[0, 0, 0, 0]⟩ : ByteArray)).size + a1.size ≤ 9223372036854775807 then ((strings_Repeat.f (⟨#[0]⟩ : ByteArray) (wrap64 (a2 - (((((t234 ++ t235) ++ t236) ++ (⟨#[0, 0, 0, 0]⟩ : ByteArray)) ++ a1).size : Int)))).bind fun t237 => (if ((((t234 ++ t235) ++ t236) ++ (⟨#[0, 0, 0, 0]⟩ : ByteArray)) ++ a1).size + t237.size ≤ 9223372036854775807 then (if 0 ≤ 12 then (if 12 ≤ ((((((t234 ++ t235) ++ t236) ++ (⟨#[0, 0, 0, 0]⟩ : ByteArray)) ++ a1) ++ t237).size : Int) then ((sum_Table.f (((((t234 ++ t235) ++ t236) ++ (⟨#[0, 0, 0, 0]⟩ : ByteArray)) ++ a1) ++ t237)).bind fun t238 => ((word_Four.f t238).bind fun t239 => (if ((((((t234 ++ t235) ++ t236) ++ (⟨#[0, 0, 0, 0]⟩ : ByteArray)) ++ a1) ++ t237).extract 0 12).size + t239.size ≤ 9223372036854775807 then (if 16 ≤ ((((((t234 ++ t235) ++ t236) ++ (⟨#[0, 0, 0, 0]⟩ : ByteArray)) ++ a1) ++ t237).size : Int) then (if (((((((t234 ++ t235) ++ t236) ++ (⟨#[0, 0, 0, 0]⟩ : ByteArray)) ++ a1) ++ t237).extract 0 12) ++ t239).size + ((((((t234 ++ t235) ++ t236) ++ (⟨#[0, 0, 0, 0]⟩ : ByteArray)) ++ a1) ++ t237).extract 16 (((((t234 ++ t235) ++ t236) ++ (⟨#[0, 0, 0, 0]⟩ : ByteArray)) ++ a1) ++ t237).size).size ≤ 9223372036854775807 then (some ((((((((t234 ++ t235) ++ t236) ++ (⟨#[0, 0, 0, 0]⟩ : ByteArray)) ++ a1) ++ t237).extract 0 12) ++ t239) ++ ((((((t234 ++ t235) ++ t236) ++ (⟨#[0, 0, 0, 0]⟩ : ByteArray)) ++ a1) ++ t237).extract 16 (((((t234 ++ t235) ++ t236) ++ (⟨#[0, 0, 0, 0]⟩ : ByteArray)) ++ a1) ++ t237).size), 0)) else (none)) else (none)) else (none)))) else (none)) else (none)) else (none))) else (none)) else (none)) else (none))) else (none)))) else (some ((⟨#[]⟩ : ByteArray), t230)))) = some (r1, r2) := h
 clear h
 obtain ⟨t230, A4, H⟩ := bN H
 (try dsimp only at H)
 by_cases c5 : t230 = 0
 rotate_left
 ·rw [if_neg c5] at H
  have c5b0 : (t230 == 0) = false := beq_eq_false_iff_ne.mpr c5
  have c5b1 : (t230 != 0) = true := bne_iff_ne.mpr c5
  simp only [Option.some.injEq, Prod.mk.injEq] at H
  obtain ⟨rfl, rfl⟩ := H
  go_enter Tryz.func35, Tryz.ntmps35
  go_wp2_with (first | ((with_reducible refine gate_dst (N := 3) rfl ?_); refine box_event (by rfl) (N := 3) (by rfl) (cs := #[.int .i64 a0_0, .int .i64 a0_1, .int .i64 a0_2, .int .i64 a0_3, .int .i64 a0_4]) (t := 71) gS ?_; intro gb229 hg w45 hbox hb; have BK229 := as_ (hbox); have GW229 := gw hg bA; have GE229 := gw hg bA; replace HB := as_ (below_step bA hb); clear hb hbox hg; obtain ⟨hcz46_0, hcz46_1, hcz46_2, hcz46_3, hcz46_4⟩ := zc5 BK229; obtain ⟨hfz46_0, hfz46_1, hfz46_2, hfz46_3, hfz46_4⟩ := zf5 BK229) | ((with_reducible refine gate_callee (f := 67) rfl ?_); refine goesL_ (some 13) rfl rfl Tryz.func67 (by kernel_rfl) rfl #[.agg #[.int .i64 a0_0, .int .i64 a0_1, .int .i64 a0_2, .int .i64 a0_3, .int .i64 a0_4], .string a1, .int .i64 a2] rfl aO ?_; (with_reducible refine (head_may.calls a0_0 a0_1 a0_2 a0_3 a0_4 a1 a2 t230 _ A4.out).mono ?_); rintro e w47 ⟨evw47, rfl, her_, hec_, hb⟩; have HER := Aside0.mk her_; have HEC := Aside0.mk hec_; clear her_ hec_; refine ⟨_, rfl, ?_⟩; replace BK229 := bb BK229 hb; replace HB := as_ (below_step bA hb); (try clear hb); (try clear hi)) | ((with_reducible refine gate_callee (f := 66) rfl ?_); refine goesL_ (some 14) rfl rfl Tryz.func66 (by kernel_rfl) rfl #[evw47] rfl (by (try simp only [List.map_toArray, List.map_cons, List.map_nil]); first | done | rfl) ?_; (with_reducible refine (head_may.calls2 evw47 t230 HEC.out _ HER.out).mono ?_); rintro e w47b ⟨rfl, hb⟩; refine ⟨_, rfl, ?_⟩; replace BK229 := bb BK229 hb; replace HB := as_ (below_step bA hb); (try clear hb); (try clear hi)))
  go_ret2
  exact ⟨eW, bA⟩
 
 rw [if_pos c5] at H
 have c5b0 : (t230 == 0) = true := beq_iff_eq.mpr c5
 have c5b1 : (t230 != 0) = false := bne_eq_false_iff_eq.mpr c5
 clear c5
 obtain ⟨y231, hy231⟩ : ∃ y_ : List Int, y_ = (([a0_0, a0_1, a0_2, wrap64 (Int.tdiv a0_2 256)] : List Int)) := ⟨_, rfl⟩
 replace H : ((head_bytes.f k y231).bind fun t234 => ((word_Four.f ((a0_3) % 4294967296)).bind fun t235 => (if t234.size + t235.size ≤ 9223372036854775807 then ((word_Four.f ((a0_4) % 4294967296)).bind fun t236 => (if (t234 ++ t235).size + t236.size ≤ 9223372036854775807 then (if ((t234 ++ t235) ++ t236).size + 4 ≤ 9223372036854775807 then (if (((t234 ++ t235) ++ t236) ++ (⟨#[0, 0, 0, 0]⟩ : ByteArray)).size + a1.size ≤ 9223372036854775807 then ((strings_Repeat.f (⟨#[0]⟩ : ByteArray) (wrap64 (a2 - (((((t234 ++ t235) ++ t236) ++ (⟨#[0, 0, 0, 0]⟩ : ByteArray)) ++ a1).size : Int)))).bind fun t237 => (if ((((t234 ++ t235) ++ t236) ++ (⟨#[0, 0, 0, 0]⟩ : ByteArray)) ++ a1).size + t237.size ≤ 9223372036854775807 then (if 0 ≤ 12 then (if 12 ≤ ((((((t234 ++ t235) ++ t236) ++ (⟨#[0, 0, 0, 0]⟩ : ByteArray)) ++ a1) ++ t237).size : Int) then ((sum_Table.f (((((t234 ++ t235) ++ t236) ++ (⟨#[0, 0, 0, 0]⟩ : ByteArray)) ++ a1) ++ t237)).bind fun t238 => ((word_Four.f t238).bind fun t239 => (if ((((((t234 ++ t235) ++ t236) ++ (⟨#[0, 0, 0, 0]⟩ : ByteArray)) ++ a1) ++ t237).extract 0 12).size + t239.size ≤ 9223372036854775807 then (if 16 ≤ ((((((t234 ++ t235) ++ t236) ++ (⟨#[0, 0, 0, 0]⟩ : ByteArray)) ++ a1) ++ t237).size : Int) then (if (((((((t234 ++ t235) ++ t236) ++ (⟨#[0, 0, 0, 0]⟩ : ByteArray)) ++ a1) ++ t237).extract 0 12) ++ t239).size + ((((((t234 ++ t235) ++ t236) ++ (⟨#[0, 0, 0, 0]⟩ : ByteArray)) ++ a1) ++ t237).extract 16 (((((t234 ++ t235) ++ t236) ++ (⟨#[0, 0, 0, 0]⟩ : ByteArray)) ++ a1) ++ t237).size).size ≤ 9223372036854775807 then (some ((((((((t234 ++ t235) ++ t236) ++ (⟨#[0, 0, 0, 0]⟩ : ByteArray)) ++ a1) ++ t237).extract 0 12) ++ t239) ++ ((((((t234 ++ t235) ++ t236) ++ (⟨#[0, 0, 0, 0]⟩ : ByteArray)) ++ a1) ++ t237).extract 16 (((((t234 ++ t235) ++ t236) ++ (⟨#[0, 0, 0, 0]⟩ : ByteArray)) ++ a1) ++ t237).size), 0)) else (none)) else (none)) else (none)))) else (none)) else (none)) else (none))) else (none)) else (none)) else (none))) else (none)))) = some (r1, r2) := by first | (rw [hy231]; with_reducible exact H) | (have H2_ := (Option.bind_some _ _).symm.trans H; rw [hy231]; with_reducible exact H2_) | (have H2_ := (Option.bind_some _ _).symm.trans H; with_reducible exact H2_) | with_reducible exact H | (rw [hy231]; exact H) | exact H
 have Ny231 := Aside0.mk hy231
 clear hy231
 obtain ⟨t234, A6, H⟩ := bN H
 (try dsimp only at H)
 obtain ⟨t235, A7, H⟩ := bN H
 (try dsimp only at H)
 obtain ⟨c8, H⟩ := iN (c := t234.size + t235.size ≤ 9223372036854775807) H
 have c8b0 := eq_true c8
 have c8b1 := decide_eq_true c8
 try have c8b2 : (9223372036854775807 < t234.size + t235.size) = False := eq_false (Nat.not_lt.2 c8)
 obtain ⟨js9, hjs9⟩ : ∃ j_ : ByteArray, (t234 ++ t235) = j_ := ⟨_, rfl⟩
 replace H : ((word_Four.f ((a0_4) % 4294967296)).bind fun t236 => (if (js9).size + t236.size ≤ 9223372036854775807 then (if ((js9) ++ t236).size + 4 ≤ 9223372036854775807 then (if (((js9) ++ t236) ++ (⟨#[0, 0, 0, 0]⟩ : ByteArray)).size + a1.size ≤ 9223372036854775807 then ((strings_Repeat.f (⟨#[0]⟩ : ByteArray) (wrap64 (a2 - (((((js9) ++ t236) ++ (⟨#[0, 0, 0, 0]⟩ : ByteArray)) ++ a1).size : Int)))).bind fun t237 => (if ((((js9) ++ t236) ++ (⟨#[0, 0, 0, 0]⟩ : ByteArray)) ++ a1).size + t237.size ≤ 9223372036854775807 then (if 0 ≤ 12 then (if 12 ≤ ((((((js9) ++ t236) ++ (⟨#[0, 0, 0, 0]⟩ : ByteArray)) ++ a1) ++ t237).size : Int) then ((sum_Table.f (((((js9) ++ t236) ++ (⟨#[0, 0, 0, 0]⟩ : ByteArray)) ++ a1) ++ t237)).bind fun t238 => ((word_Four.f t238).bind fun t239 => (if ((((((js9) ++ t236) ++ (⟨#[0, 0, 0, 0]⟩ : ByteArray)) ++ a1) ++ t237).extract 0 12).size + t239.size ≤ 9223372036854775807 then (if 16 ≤ ((((((js9) ++ t236) ++ (⟨#[0, 0, 0, 0]⟩ : ByteArray)) ++ a1) ++ t237).size : Int) then (if (((((((js9) ++ t236) ++ (⟨#[0, 0, 0, 0]⟩ : ByteArray)) ++ a1) ++ t237).extract 0 12) ++ t239).size + ((((((js9) ++ t236) ++ (⟨#[0, 0, 0, 0]⟩ : ByteArray)) ++ a1) ++ t237).extract 16 (((((js9) ++ t236) ++ (⟨#[0, 0, 0, 0]⟩ : ByteArray)) ++ a1) ++ t237).size).size ≤ 9223372036854775807 then (some ((((((((js9) ++ t236) ++ (⟨#[0, 0, 0, 0]⟩ : ByteArray)) ++ a1) ++ t237).extract 0 12) ++ t239) ++ ((((((js9) ++ t236) ++ (⟨#[0, 0, 0, 0]⟩ : ByteArray)) ++ a1) ++ t237).extract 16 (((((js9) ++ t236) ++ (⟨#[0, 0, 0, 0]⟩ : ByteArray)) ++ a1) ++ t237).size), 0)) else (none)) else (none)) else (none)))) else (none)) else (none)) else (none))) else (none)) else (none)) else (none))) = some (r1, r2) := by first | (rw [hjs9] at H; exact H) | (simp only [hjs9] at H ⊢; exact H)
 (try rw [hjs9] at A4)
 (try rw [hjs9] at A6)
 (try rw [hjs9] at A7)
 obtain ⟨t236, A10, H⟩ := bN H
 (try dsimp only at H)
 obtain ⟨c11, H⟩ := iN (c := (js9).size + t236.size ≤ 9223372036854775807) H
 have c11b0 := eq_true c11
 have c11b1 := decide_eq_true c11
 try have c11b2 : (9223372036854775807 < (js9).size + t236.size) = False := eq_false (Nat.not_lt.2 c11)
 obtain ⟨js12, hjs12⟩ : ∃ j_ : ByteArray, ((js9) ++ t236) = j_ := ⟨_, rfl⟩
 replace H : (if (js12).size + 4 ≤ 9223372036854775807 then (if ((js12) ++ (⟨#[0, 0, 0, 0]⟩ : ByteArray)).size + a1.size ≤ 9223372036854775807 then ((strings_Repeat.f (⟨#[0]⟩ : ByteArray) (wrap64 (a2 - ((((js12) ++ (⟨#[0, 0, 0, 0]⟩ : ByteArray)) ++ a1).size : Int)))).bind fun t237 => (if (((js12) ++ (⟨#[0, 0, 0, 0]⟩ : ByteArray)) ++ a1).size + t237.size ≤ 9223372036854775807 then (if 0 ≤ 12 then (if 12 ≤ (((((js12) ++ (⟨#[0, 0, 0, 0]⟩ : ByteArray)) ++ a1) ++ t237).size : Int) then ((sum_Table.f ((((js12) ++ (⟨#[0, 0, 0, 0]⟩ : ByteArray)) ++ a1) ++ t237)).bind fun t238 => ((word_Four.f t238).bind fun t239 => (if (((((js12) ++ (⟨#[0, 0, 0, 0]⟩ : ByteArray)) ++ a1) ++ t237).extract 0 12).size + t239.size ≤ 9223372036854775807 then (if 16 ≤ (((((js12) ++ (⟨#[0, 0, 0, 0]⟩ : ByteArray)) ++ a1) ++ t237).size : Int) then (if ((((((js12) ++ (⟨#[0, 0, 0, 0]⟩ : ByteArray)) ++ a1) ++ t237).extract 0 12) ++ t239).size + (((((js12) ++ (⟨#[0, 0, 0, 0]⟩ : ByteArray)) ++ a1) ++ t237).extract 16 ((((js12) ++ (⟨#[0, 0, 0, 0]⟩ : ByteArray)) ++ a1) ++ t237).size).size ≤ 9223372036854775807 then (some (((((((js12) ++ (⟨#[0, 0, 0, 0]⟩ : ByteArray)) ++ a1) ++ t237).extract 0 12) ++ t239) ++ (((((js12) ++ (⟨#[0, 0, 0, 0]⟩ : ByteArray)) ++ a1) ++ t237).extract 16 ((((js12) ++ (⟨#[0, 0, 0, 0]⟩ : ByteArray)) ++ a1) ++ t237).size), 0)) else (none)) else (none)) else (none)))) else (none)) else (none)) else (none))) else (none)) else (none)) = some (r1, r2) := by first | (rw [hjs12] at H; exact H) | (simp only [hjs12] at H ⊢; exact H)
 (try rw [hjs12] at A4)
 (try rw [hjs12] at A6)
 (try rw [hjs12] at A7)
 (try rw [hjs12] at A10)
 obtain ⟨c13, H⟩ := iN (c := (js12).size + 4 ≤ 9223372036854775807) H
 have c13b0 := eq_true c13
 have c13b1 : decide ((js12).size + 4 ≤ 9223372036854775807) = true := decide_eq_true c13
 try have c13b2 : (9223372036854775807 < (js12).size + 4) = False := eq_false (Nat.not_lt.2 c13)
 obtain ⟨js14, hjs14⟩ : ∃ j_ : ByteArray, ((js12) ++ (⟨#[0, 0, 0, 0]⟩ : ByteArray)) = j_ := ⟨_, rfl⟩
 replace H : (if (js14).size + a1.size ≤ 9223372036854775807 then ((strings_Repeat.f (⟨#[0]⟩ : ByteArray) (wrap64 (a2 - (((js14) ++ a1).size : Int)))).bind fun t237 => (if ((js14) ++ a1).size + t237.size ≤ 9223372036854775807 then (if 0 ≤ 12 then (if 12 ≤ ((((js14) ++ a1) ++ t237).size : Int) then ((sum_Table.f (((js14) ++ a1) ++ t237)).bind fun t238 => ((word_Four.f t238).bind fun t239 => (if ((((js14) ++ a1) ++ t237).extract 0 12).size + t239.size ≤ 9223372036854775807 then (if 16 ≤ ((((js14) ++ a1) ++ t237).size : Int) then (if (((((js14) ++ a1) ++ t237).extract 0 12) ++ t239).size + ((((js14) ++ a1) ++ t237).extract 16 (((js14) ++ a1) ++ t237).size).size ≤ 9223372036854775807 then (some ((((((js14) ++ a1) ++ t237).extract 0 12) ++ t239) ++ ((((js14) ++ a1) ++ t237).extract 16 (((js14) ++ a1) ++ t237).size), 0)) else (none)) else (none)) else (none)))) else (none)) else (none)) else (none))) else (none)) = some (r1, r2) := by first | (rw [hjs14] at H; exact H) | (simp only [hjs14] at H ⊢; exact H)
 (try rw [hjs14] at A4)
 (try rw [hjs14] at A6)
 (try rw [hjs14] at A7)
 (try rw [hjs14] at A10)
 obtain ⟨c15, H⟩ := iN (c := (js14).size + a1.size ≤ 9223372036854775807) H
 have c15b0 := eq_true c15
 have c15b1 := decide_eq_true c15
 try have c15b2 : (9223372036854775807 < (js14).size + a1.size) = False := eq_false (Nat.not_lt.2 c15)
 obtain ⟨js16, hjs16⟩ : ∃ j_ : ByteArray, ((js14) ++ a1) = j_ := ⟨_, rfl⟩
 replace H : ((strings_Repeat.f (⟨#[0]⟩ : ByteArray) (wrap64 (a2 - ((js16).size : Int)))).bind fun t237 => (if (js16).size + t237.size ≤ 9223372036854775807 then (if 0 ≤ 12 then (if 12 ≤ (((js16) ++ t237).size : Int) then ((sum_Table.f ((js16) ++ t237)).bind fun t238 => ((word_Four.f t238).bind fun t239 => (if (((js16) ++ t237).extract 0 12).size + t239.size ≤ 9223372036854775807 then (if 16 ≤ (((js16) ++ t237).size : Int) then (if ((((js16) ++ t237).extract 0 12) ++ t239).size + (((js16) ++ t237).extract 16 ((js16) ++ t237).size).size ≤ 9223372036854775807 then (some (((((js16) ++ t237).extract 0 12) ++ t239) ++ (((js16) ++ t237).extract 16 ((js16) ++ t237).size), 0)) else (none)) else (none)) else (none)))) else (none)) else (none)) else (none))) = some (r1, r2) := by first | (rw [hjs16] at H; exact H) | (simp only [hjs16] at H ⊢; exact H)
 (try rw [hjs16] at A4)
 (try rw [hjs16] at A6)
 (try rw [hjs16] at A7)
 (try rw [hjs16] at A10)
 obtain ⟨t237, A17, H⟩ := bN H
 (try dsimp only at H)
 obtain ⟨c18, H⟩ := iN (c := (js16).size + t237.size ≤ 9223372036854775807) H
 have c18b0 := eq_true c18
 have c18b1 := decide_eq_true c18
 try have c18b2 : (9223372036854775807 < (js16).size + t237.size) = False := eq_false (Nat.not_lt.2 c18)
 obtain ⟨js19, hjs19⟩ : ∃ j_ : ByteArray, ((js16) ++ t237) = j_ := ⟨_, rfl⟩
 replace H : (if 0 ≤ 12 then (if 12 ≤ ((js19).size : Int) then ((sum_Table.f (js19)).bind fun t238 => ((word_Four.f t238).bind fun t239 => (if ((js19).extract 0 12).size + t239.size ≤ 9223372036854775807 then (if 16 ≤ ((js19).size : Int) then (if (((js19).extract 0 12) ++ t239).size + ((js19).extract 16 (js19).size).size ≤ 9223372036854775807 then (some ((((js19).extract 0 12) ++ t239) ++ ((js19).extract 16 (js19).size), 0)) else (none)) else (none)) else (none)))) else (none)) else (none)) = some (r1, r2) := by first | (rw [hjs19] at H; exact H) | (simp only [hjs19] at H ⊢; exact H)
 (try rw [hjs19] at A4)
 (try rw [hjs19] at A6)
 (try rw [hjs19] at A7)
 (try rw [hjs19] at A10)
 (try rw [hjs19] at A17)
 obtain ⟨c20, H⟩ := iN (c := 0 ≤ 12) H
 have c20b0 := eq_true c20
 have c20b1 := decide_eq_true c20
 clear c20
 obtain ⟨c21, H⟩ := iN (c := 12 ≤ ((js19).size : Int)) H
 have c21b0 := eq_true c21
 have c21b1 := decide_eq_true c21
 clear c21
 obtain ⟨js22, hjs22⟩ : ∃ j_ : ByteArray, ((js19).extract 0 12) = j_ := ⟨_, rfl⟩
 replace H : ((sum_Table.f (js19)).bind fun t238 => ((word_Four.f t238).bind fun t239 => (if (js22).size + t239.size ≤ 9223372036854775807 then (if 16 ≤ ((js19).size : Int) then (if ((js22) ++ t239).size + ((js19).extract 16 (js19).size).size ≤ 9223372036854775807 then (some (((js22) ++ t239) ++ ((js19).extract 16 (js19).size), 0)) else (none)) else (none)) else (none)))) = some (r1, r2) := by first | (rw [hjs22] at H; exact H) | (simp only [hjs22] at H ⊢; exact H)
 (try rw [hjs22] at A4)
 (try rw [hjs22] at A6)
 (try rw [hjs22] at A7)
 (try rw [hjs22] at A10)
 (try rw [hjs22] at A17)
 obtain ⟨t238, A23, H⟩ := bN H
 (try dsimp only at H)
 obtain ⟨t239, A24, H⟩ := bN H
 (try dsimp only at H)
 obtain ⟨c25, H⟩ := iN (c := (js22).size + t239.size ≤ 9223372036854775807) H
 have c25b0 := eq_true c25
 have c25b1 := decide_eq_true c25
 try have c25b2 : (9223372036854775807 < (js22).size + t239.size) = False := eq_false (Nat.not_lt.2 c25)
 obtain ⟨js26, hjs26⟩ : ∃ j_ : ByteArray, ((js22) ++ t239) = j_ := ⟨_, rfl⟩
 replace H : (if 16 ≤ ((js19).size : Int) then (if (js26).size + ((js19).extract 16 (js19).size).size ≤ 9223372036854775807 then (some ((js26) ++ ((js19).extract 16 (js19).size), 0)) else (none)) else (none)) = some (r1, r2) := by first | (rw [hjs26] at H; exact H) | (simp only [hjs26] at H ⊢; exact H)
 (try rw [hjs26] at A4)
 (try rw [hjs26] at A6)
 (try rw [hjs26] at A7)
 (try rw [hjs26] at A10)
 (try rw [hjs26] at A17)
 (try rw [hjs26] at A23)
 (try rw [hjs26] at A24)
 obtain ⟨c27, H⟩ := iN (c := 16 ≤ ((js19).size : Int)) H
 have c27b0 := eq_true c27
 have c27b1 := decide_eq_true c27
 clear c27
 obtain ⟨js28, hjs28⟩ : ∃ j_ : ByteArray, ((js19).extract 16 (js19).size) = j_ := ⟨_, rfl⟩
 replace H : (if (js26).size + (js28).size ≤ 9223372036854775807 then (some ((js26) ++ (js28), 0)) else (none)) = some (r1, r2) := by first | (rw [hjs28] at H; exact H) | (simp only [hjs28] at H ⊢; exact H)
 (try rw [hjs28] at A4)
 (try rw [hjs28] at A6)
 (try rw [hjs28] at A7)
 (try rw [hjs28] at A10)
 (try rw [hjs28] at A17)
 (try rw [hjs28] at A23)
 (try rw [hjs28] at A24)
 obtain ⟨c29, H⟩ := iN (c := (js26).size + (js28).size ≤ 9223372036854775807) H
 have c29b0 := eq_true c29
 have c29b1 := decide_eq_true c29
 try have c29b2 : (9223372036854775807 < (js26).size + (js28).size) = False := eq_false (Nat.not_lt.2 c29)
 obtain ⟨js30, hjs30⟩ : ∃ j_ : ByteArray, ((js26) ++ (js28)) = j_ := ⟨_, rfl⟩
 replace H : (some (js30, 0)) = some (r1, r2) := by first | (rw [hjs30] at H; exact H) | (simp only [hjs30] at H ⊢; exact H)
 (try rw [hjs30] at A4)
 (try rw [hjs30] at A6)
 (try rw [hjs30] at A7)
 (try rw [hjs30] at A10)
 (try rw [hjs30] at A17)
 (try rw [hjs30] at A23)
 (try rw [hjs30] at A24)
 simp only [Option.some.injEq, Prod.mk.injEq] at H
 obtain ⟨rfl, rfl⟩ := H
 go_enter Tryz.func35, Tryz.ntmps35
 try go_wp2_with (first | ((with_reducible refine gate_dst (N := 3) rfl ?_); refine box_event (by rfl) (N := 3) (by rfl) (cs := #[.int .i64 a0_0, .int .i64 a0_1, .int .i64 a0_2, .int .i64 a0_3, .int .i64 a0_4]) (t := 71) gS ?_; intro gb229 hg w31 hbox hb; have BK229 := as_ (hbox); have GW229 := gw hg bA; have GE229 := gw hg bA; replace HB := as_ (below_step bA hb); clear hb hbox hg; obtain ⟨hcz32_0, hcz32_1, hcz32_2, hcz32_3, hcz32_4⟩ := zc5 BK229; obtain ⟨hfz32_0, hfz32_1, hfz32_2, hfz32_3, hfz32_4⟩ := zf5 BK229) | ((with_reducible refine gate_callee (f := 67) rfl ?_); refine goesL_ (some 13) rfl rfl Tryz.func67 (by kernel_rfl) rfl #[.agg #[.int .i64 a0_0, .int .i64 a0_1, .int .i64 a0_2, .int .i64 a0_3, .int .i64 a0_4], .string a1, .int .i64 a2] rfl aO ?_; (with_reducible refine (head_may.calls a0_0 a0_1 a0_2 a0_3 a0_4 a1 a2 t230 _ A4.out).mono ?_); rintro e w33 ⟨evw33, rfl, her_, hec_, hb⟩; have HER := Aside0.mk her_; have HEC := Aside0.mk hec_; clear her_ hec_; refine ⟨_, rfl, ?_⟩; replace BK229 := bb BK229 hb; replace HB := as_ (below_step bA hb); (try clear hb); (try clear hi)) | ((with_reducible refine gate_callee (f := 66) rfl ?_); refine goesL_ (some 14) rfl rfl Tryz.func66 (by kernel_rfl) rfl #[evw33] rfl (by (try simp only [List.map_toArray, List.map_cons, List.map_nil]); first | done | rfl) ?_; (with_reducible refine (head_may.calls2 evw33 t230 HEC.out _ HER.out).mono ?_); rintro e w33b ⟨rfl, hb⟩; refine ⟨_, rfl, ?_⟩; replace BK229 := bb BK229 hb; replace HB := as_ (below_step bA hb); (try clear hb); (try clear hi)))
 replace BK229 := as_ (blk_drew BK229.out)
 replace HB := as_ (below_drew1 HB.out)
 refine start_ (n := 25) (S := fun w' => w'.cell? ⟨gb229, 0, none⟩ = some (.int .i64 a0_0) ∧ w'.cell? ⟨gb229, 1, none⟩ = some (.int .i64 a0_1) ∧ w'.cell? ⟨gb229, 2, none⟩ = some (.int .i64 a0_2) ∧ w'.cell? ⟨gb229, 3, none⟩ = some (.int .i64 a0_3) ∧ w'.cell? ⟨gb229, 4, none⟩ = some (.int .i64 a0_4)) (ds := []) #[ff, ff, ff, ff, ff, ff, ff, ff, ff, ff, ff, ff, ff, ff, ff, ff, ff, ff, ff, ff, ff, ff, ff, ff, ff] (by kernel_rfl) rfl rfl ⟨(blk_cell BK229.out 0).trans rfl, (blk_cell BK229.out 1).trans rfl, (blk_cell BK229.out 2).trans rfl, (blk_cell BK229.out 3).trans rfl, (blk_cell BK229.out 4).trans rfl⟩ (fun hHeld => ?_); refine with_tabW head_Seal.tab4 head_Seal.bits4 (fun HT_ HW_ => ?_)
 generalize w33.drew = w34 at BK229 HB hHeld ⊢
 refine pu_ 0 (some 18) (mr [1, 24]) rfl rfl (h := ?_)
 refine pu_ 2 (some 20) (mr [1, 1, 1, 22]) rfl rfl (h := ?_)
 refine pu_ 4 (some 22) (mr [1, 1, 1, 1, 1, 20]) rfl rfl (h := ?_)
 refine pu_ 6 (some 24) (mr [1, 1, 1, 1, 1, 1, 1, 18]) rfl rfl (h := ?_)
 refine pu_ 11 (some 29) (mr [1, 1, 1, 1, 1, 1, 1, 4, 1, 13]) rfl rfl (h := ?_)
 refine pu_ 16 (some 34) (mr [1, 1, 1, 1, 1, 1, 1, 4, 1, 4, 1, 8]) rfl rfl (h := ?_)
 refine pu_ 22 (some 40) (mr [1, 1, 1, 1, 1, 1, 1, 4, 1, 4, 1, 5, 1, 2]) rfl rfl (h := ?_)
 refine take_ (i := 1) (N := some 19) (v := ?_) (a' := ?_) (mr [3, 1, 1, 1, 1, 4, 1, 4, 1, 5, 1, 2]) rfl rfl (take_ofW HT_.out HW_.out (by kernel_rfl)) (fun _ _ _ h => h) (Or.inl ⟨by rfl, ?_⟩) hHeld ?_ ?_
 rotate_left
 ·rintro w' ⟨s0, s1, s2, s3, s4⟩
  go_simp
  with_reducible rfl
 rotate_left
 ·exact aP
 refine take_ (i := 3) (N := some 21) (v := ?_) (a' := ?_) (mr [5, 1, 1, 4, 1, 4, 1, 5, 1, 2]) rfl rfl (take_ofW HT_.out HW_.out (by kernel_rfl)) (fun _ _ _ h => h) (Or.inl ⟨by rfl, ?_⟩) hHeld ?_ ?_
 rotate_left
 ·rintro w' ⟨s0, s1, s2, s3, s4⟩
  go_simp
  with_reducible rfl
 rotate_left
 ·exact aP
 refine take_ (i := 5) (N := some 23) (v := ?_) (a' := ?_) (mr [7, 4, 1, 4, 1, 5, 1, 2]) rfl rfl (take_ofW HT_.out HW_.out (by kernel_rfl)) (fun _ _ _ h => h) (Or.inl ⟨by rfl, ?_⟩) hHeld ?_ ?_
 rotate_left
 ·rintro w' ⟨s0, s1, s2, s3, s4⟩
  go_simp
  with_reducible rfl
 rotate_left
 ·exact aP
 refine take_ (i := 7) (N := some 25) (v := ?_) (a' := ?_) (mr [8, 3, 1, 4, 1, 5, 1, 2]) rfl rfl (take_ofW HT_.out HW_.out (by kernel_rfl)) (fun _ _ _ h => h) (Or.inl ⟨by rfl, ?_⟩) hHeld ?_ ?_
 rotate_left
 ·rintro w' ⟨s0, s1, s2, s3, s4⟩
  go_simp
  with_reducible rfl
 rotate_left
 ·exact aP
 refine pu_ 8 (some 26) (mr [9, 2, 1, 4, 1, 5, 1, 2]) rfl rfl (h := ?_)
 refine take_ (i := 12) (N := some 30) (v := ?_) (a' := ?_) (mr [9, 2, 2, 3, 1, 5, 1, 2]) rfl rfl (take_ofW HT_.out HW_.out (by kernel_rfl)) (fun _ _ _ h => h) (Or.inl ⟨by rfl, ?_⟩) hHeld ?_ ?_
 rotate_left
 ·rintro w' ⟨s0, s1, s2, s3, s4⟩
  go_simp
  with_reducible rfl
 rotate_left
 ·exact aP
 refine pu_ 13 (some 31) (mr [9, 2, 3, 2, 1, 5, 1, 2]) rfl rfl (h := ?_)
 refine take_ (i := 17) (N := some 35) (v := ?_) (a' := ?_) (mr [9, 2, 3, 2, 2, 4, 1, 2]) rfl rfl (take_ofW HT_.out HW_.out (by kernel_rfl)) (fun _ _ _ h => h) (Or.inl ⟨by rfl, ?_⟩) hHeld ?_ ?_
 rotate_left
 ·rintro w' ⟨s0, s1, s2, s3, s4⟩
  go_simp
  with_reducible rfl
 rotate_left
 ·exact aP
 refine pu_ 18 (some 36) (mr [9, 2, 3, 2, 3, 3, 1, 2]) rfl rfl (h := ?_)
 refine one_ (i := 9) (N := some 27) (mr [10, 1, 3, 2, 3, 3, 1, 2]) rfl rfl (one_of HT_.out (by kernel_rfl)) (by decide) (fun K hK => ?_)
 refine Kd.R_lit_step (Kd.int .i64) _ 3 ?hg (N := 27) ?hd (xs := ([a0_0, a0_1, a0_2, wrap64 (Int.tdiv a0_2 256)] : List Int)) (inner := [.int .i64 a0_0, .int .i64 a0_1, .int .i64 a0_2, .int .i64 (wrap64 (Int.tdiv a0_2 256))]) (ok := fun _ => True) (okp := fun _ => True) ?hr ?hp (fun _ hk => hk) trivial (Below.refl _ _) (Nat.le_refl _) (by simp) ?_; (case hd => rfl); (case hg => rfl); (case hr => first | (go_simp; done) | (go_simp; rfl)); (case hp => exact (Reps.one (show Kd.M (Kd.int .i64) _ _ _ a0_0 [.int .i64 a0_0] from rfl) (Reps.one (show Kd.M (Kd.int .i64) _ _ _ a0_1 [.int .i64 a0_1] from rfl) (Reps.one (show Kd.M (Kd.int .i64) _ _ _ a0_2 [.int .i64 a0_2] from rfl) (Reps.one (show Kd.M (Kd.int .i64) _ _ _ (wrap64 (Int.tdiv a0_2 256)) [.int .i64 (wrap64 (Int.tdiv a0_2 256))] from rfl) (Reps.none _ _))))))
 intro v232 w35 ho36 hb hg_ hnew_
 clear hg_ hnew_
 (first | rw [← Ny231.out] at ho36 | (simp only [Int.reduceToNat] at ho36; rw [← Ny231.out] at ho36))
 have HO233 := as_ (Kd.R_lower ho36 (below_size bA))
 replace BK229 := bb BK229 hb
 replace HB := as_ (below_step bA hb)
 clear hb ho36
 obtain ⟨Ao37, co37, eo37⟩ := Kd.R_slice HO233.out
 (first | subst eo37 | (injection eo37 with f1_ f2_ f3_; have f4_ := f1_.symm; have f5_ := f3_.symm; clear f1_ f2_ f3_; subst f4_; subst f5_))
 refine hK.out _ _ ⟨(blk_cell BK229.out 0).trans rfl, (blk_cell BK229.out 1).trans rfl, (blk_cell BK229.out 2).trans rfl, (blk_cell BK229.out 3).trans rfl, (blk_cell BK229.out 4).trans rfl⟩ (fun hHeld => ?_)
 clear hK K
 refine nm_ (some 27) (h := ?_)
 refine one_ (i := 10) (N := some 28) (mr [14, 2, 3, 3, 1, 2]) rfl rfl (one_of HT_.out (by kernel_rfl)) (by decide) (fun K hK => ?_)
 refine goes_ Tryz.func68 (by kernel_rfl) rfl #[.slice Ao37 y231.length co37] (by rfl) rfl rfl aO ?_
 with_reducible refine (head_bytes.calls k _ _ y231 t234 _ ?side1 ?side2 A6.out).mono ?_
 (case side1 => repeat (first | exact (Kd.R_reads' HO233.out).2.2 | (with_reducible refine Kd.C_alloc ?_ _) | (with_reducible refine Kd.C_drewN ?_ _) | (with_reducible refine Kd.C_drew ?_)))
 (case side2 => exact (Kd.R_reads' HO233.out).2.1)
 rintro e w38 ⟨rfl, hb⟩
 refine ⟨_, rfl, ?_⟩
 replace HO233 := as_ (Kd.R_below (rD HO233) hb)
 replace BK229 := bb BK229 hb
 replace HB := as_ (below_step bA hb)
 (try clear hb)
 (try clear hb2)
 (try clear hk)
 (try clear hi)
 refine hK.out _ _ ⟨(blk_cell BK229.out 0).trans rfl, (blk_cell BK229.out 1).trans rfl, (blk_cell BK229.out 2).trans rfl, (blk_cell BK229.out 3).trans rfl, (blk_cell BK229.out 4).trans rfl⟩ (fun hHeld => ?_)
 clear hK K
 refine nm_ (some 28) (h := ?_)
 refine one_ (i := 14) (N := some 32) (mr [15, 1, 3, 3, 1, 2]) rfl rfl (one_of HT_.out (by kernel_rfl)) (by decide) (fun K hK => ?_)
 refine goes_ Tryz.func69 (by kernel_rfl) rfl #[.int .u32 ((a0_3) % 4294967296)] (by rfl) rfl rfl aO ?_
 with_reducible refine (word_Four.calls ((a0_3) % 4294967296) t235 _ A7.out).mono ?_
 rintro e w39 ⟨rfl, hb⟩
 refine ⟨_, rfl, ?_⟩
 replace HO233 := as_ (Kd.R_below (rD HO233) hb)
 replace BK229 := bb BK229 hb
 replace HB := as_ (below_step bA hb)
 (try clear hb)
 (try clear hb2)
 (try clear hk)
 (try clear hi)
 refine hK.out _ _ ⟨(blk_cell BK229.out 0).trans rfl, (blk_cell BK229.out 1).trans rfl, (blk_cell BK229.out 2).trans rfl, (blk_cell BK229.out 3).trans rfl, (blk_cell BK229.out 4).trans rfl⟩ (fun hHeld => ?_)
 clear hK K
 refine nm_ (some 32) (h := ?_)
 refine pu_ 15 (some 33) (mr [19, 3, 1, 2]) rfl rfl (h := ?_)
 refine one_ (i := 19) (N := some 37) (mr [20, 2, 1, 2]) rfl rfl (one_of HT_.out (by kernel_rfl)) (by decide) (fun K hK => ?_)
 refine goes_ Tryz.func69 (by kernel_rfl) rfl #[.int .u32 ((a0_4) % 4294967296)] (by rfl) rfl rfl aO ?_
 with_reducible refine (word_Four.calls ((a0_4) % 4294967296) t236 _ A10.out).mono ?_
 rintro e w40 ⟨rfl, hb⟩
 refine ⟨_, rfl, ?_⟩
 replace HO233 := as_ (Kd.R_below (rD HO233) hb)
 replace BK229 := bb BK229 hb
 replace HB := as_ (below_step bA hb)
 (try clear hb)
 (try clear hb2)
 (try clear hk)
 (try clear hi)
 refine hK.out _ _ ⟨(blk_cell BK229.out 0).trans rfl, (blk_cell BK229.out 1).trans rfl, (blk_cell BK229.out 2).trans rfl, (blk_cell BK229.out 3).trans rfl, (blk_cell BK229.out 4).trans rfl⟩ (fun hHeld => ?_)
 clear hK K
 refine nm_ (some 37) (h := ?_)
 refine pu_ 20 (some 38) (mr [21, 1, 1, 2]) rfl rfl (h := ?_)
 refine pu_ 21 (some 39) (mr [23, 2]) rfl rfl (h := ?_)
 refine pu_ 23 (some 41) (mr [24, 1]) rfl rfl (h := ?_)
 refine pu_ 24 (some 9) (mr [25]) rfl rfl (h := ?_)
 refine done_ (done_of HT_.out (by kernel_rfl)) ?_
 try go_wp2_with (first | ((with_reducible refine gate_callee (f := 65) rfl ?_); refine goesL_ (some 47) rfl rfl Tryz.func65 (by kernel_rfl) rfl #[.string (⟨#[0]⟩ : ByteArray), .int .i64 (wrap64 (a2 - ((js16).size : Int)))] rfl aO ?_; (first | (with_reducible refine (strings_Repeat.calls (⟨#[0]⟩ : ByteArray) (wrap64 (a2 - ((js16).size : Int))) t237 _ A17.out).mono ?_) | (with_reducible refine (strings_Repeat.calls (⟨#[0]⟩ : ByteArray) (a2 - ((js16).size : Int)) t237 _ (by have e_ := A17.out; rwa [(by unfold wrap64; omega : wrap64 (a2 - ((js16).size : Int)) = (a2 - ((js16).size : Int)))] at e_)).mono ?_)); rintro e w41 ⟨rfl, hb⟩; refine ⟨_, rfl, ?_⟩; replace HO233 := as_ (Kd.R_below (rD HO233) hb); replace BK229 := bb BK229 hb; replace HB := as_ (below_step bA hb); (try clear hb); (try clear hi)))
 replace HO233 := as_ (Kd.R_drew HO233.out)
 replace BK229 := as_ (blk_drew BK229.out)
 replace HB := as_ (below_drew1 HB.out)
 refine start_ (n := 11) (S := fun w' => True) (ds := []) #[ff, ff, ff, ff, ff, ff, ff, ff, ff, ff, ff] (by kernel_rfl) rfl rfl trivial (fun hHeld => ?_); refine with_tabW head_Seal.tab6 head_Seal.bits6 (fun HT_ HW_ => ?_)
 generalize w41.drew = w42 at HO233 BK229 HB hHeld ⊢
 refine pu_ 0 (some 49) (mr [1, 10]) rfl rfl (h := ?_)
 refine pu_ 1 (some 50) (mr [2, 9]) rfl rfl (h := ?_)
 refine pu_ 2 (some 51) (mr [3, 8]) rfl rfl (h := ?_)
 refine pu_ 6 (some 55) (mr [3, 3, 1, 4]) rfl rfl (h := ?_)
 refine pu_ 7 (some 56) (mr [3, 3, 2, 3]) rfl rfl (h := ?_)
 refine one_ (i := 3) (N := some 52) (mr [4, 2, 2, 3]) rfl rfl (one_of HT_.out (by kernel_rfl)) (by decide) (fun K hK => ?_)
 refine goes_ Tryz.func70 (by kernel_rfl) rfl #[.string js19] (by rfl) rfl rfl aO ?_
 with_reducible refine (sum_Table.calls js19 t238 _ A23.out).mono ?_
 rintro e w43 ⟨rfl, hb⟩
 refine ⟨_, rfl, ?_⟩
 replace HO233 := as_ (Kd.R_below (rD HO233) hb)
 replace BK229 := bb BK229 hb
 replace HB := as_ (below_step bA hb)
 (try clear hb)
 (try clear hb2)
 (try clear hk)
 (try clear hi)
 refine hK.out _ _ trivial (fun hHeld => ?_)
 clear hK K
 refine nm_ (some 52) (h := ?_)
 refine one_ (i := 4) (N := some 53) (mr [5, 1, 2, 3]) rfl rfl (one_of HT_.out (by kernel_rfl)) (by decide) (fun K hK => ?_)
 refine goes_ Tryz.func69 (by kernel_rfl) rfl #[.int .u32 t238] (by rfl) rfl rfl aO ?_
 with_reducible refine (word_Four.calls t238 t239 _ A24.out).mono ?_
 rintro e w44 ⟨rfl, hb⟩
 refine ⟨_, rfl, ?_⟩
 replace HO233 := as_ (Kd.R_below (rD HO233) hb)
 replace BK229 := bb BK229 hb
 replace HB := as_ (below_step bA hb)
 (try clear hb)
 (try clear hb2)
 (try clear hk)
 (try clear hi)
 refine hK.out _ _ trivial (fun hHeld => ?_)
 clear hK K
 refine nm_ (some 53) (h := ?_)
 refine pu_ 5 (some 54) (mr [8, 3]) rfl rfl (h := ?_)
 refine pu_ 8 (some 57) (mr [9, 2]) rfl rfl (h := ?_)
 refine pu_ 9 (some 6) (mr [10, 1]) rfl rfl (h := ?_)
 refine pu_ 10 (some 7) (mr [11]) rfl rfl (h := ?_)
 refine done_ (done_of HT_.out (by kernel_rfl)) ?_
 try go_wp2
 go_ret2
 exact ⟨by first | rfl | (simp [errW_none, errW_some] <;> rfl) | (simp only [← hjs9, ← hjs12, ← hjs14, ← hjs16, ← hjs19, ← hjs22, ← hjs26, ← hjs28, ← hjs30]; first | rfl | (simp [errW_none, errW_some] <;> rfl)) | (simp [*, errW_none, errW_some] <;> rfl), bA⟩
/-! ### inner_Encode: function 10 -/
def inner_Encode.f (k : Nat) (a0_0 : Int) (a0_1 : Int) (a0_2 : Int) (a0_3 : ByteArray) (l0_4 : List Int) (l0_5 : List ByteArray) (a1 : Int) : Option (ByteArray × Int) := (disk_Size.f a1).bind fun t241 => (if t241 = true then ((inner_May.f k a0_0 a0_1 a0_2 a0_3 l0_4 l0_5 a1).bind fun t242 => (if t242 = true then ((inner_parts.f k a0_0 a0_1 a0_2 a0_3 l0_4 l0_5).bind fun bt243 => ((slot_Pack.f k (wrap64 (a1 - 16)) bt243.1 bt243.2).bind fun bt247 => (if bt247.2 = 0 then ((head_Seal.f k 3 a0_1 (l0_4.length : Int) a0_2 a0_0 bt247.1 a1).bind fun bt249 => (some (bt249.1, bt249.2))) else (some ((⟨#[]⟩ : ByteArray), bt247.2))))) else (some ((⟨#[]⟩ : ByteArray), 3)))) else (some ((⟨#[]⟩ : ByteArray), 4)))
theorem inner_Encode.mono : ∀ a0 a1 a2 a3 a4 a5 a6 k, LeO (inner_Encode.f k a0 a1 a2 a3 a4 a5 a6) (inner_Encode.f (k + 1) a0 a1 a2 a3 a4 a5 a6) := by
 intro a0 a1 a2 a3 a4 a5 a6 k
 unfold inner_Encode.f
 repeat' first
   | (with_reducible exact head_Seal.mono _ _ _ _ _ _ _ _)
   | (with_reducible exact inner_May.mono _ _ _ _ _ _ _ _)
   | (with_reducible exact inner_parts.mono _ _ _ _ _ _ _)
   | (with_reducible exact slot_Pack.mono _ _ _ _)
   | (with_reducible exact LeO.refl _)
   | (with_reducible exact LeO.none _)
   | (with_reducible refine LeO.ite ?_ ?_)
   | (with_reducible refine LeO.bind ?_ (fun _ => ?_))
   | exact head_Seal.mono _ _ _ _ _ _ _ _
   | exact inner_May.mono _ _ _ _ _ _ _ _
   | exact inner_parts.mono _ _ _ _ _ _ _
   | exact slot_Pack.mono _ _ _ _
   | exact LeO.none _
   | refine LeO.ite ?_ ?_
   | refine LeO.bind ?_ (fun _ => ?_)
set_option maxHeartbeats 8000000 in
set_option maxRecDepth 100000 in
theorem inner_Encode.calls (k : Nat) (a0_0 : Int) (a0_1 : Int) (a0_2 : Int) (a0_3 : ByteArray) (A0_4 : Option Addr) (c0_4 : Nat) (l0_4 : List Int) (A0_5 : Option Addr) (c0_5 : Nat) (l0_5 : List ByteArray) (a1 : Int) (r1 : ByteArray) (r2 : Int) (w : World) (hr0_4 : Kd.C (Kd.int .i64) w A0_4 l0_4.length l0_4) (hc0_4 : l0_4.length ≤ c0_4) (hr0_5 : Kd.C Kd.string w A0_5 l0_5.length l0_5) (hc0_5 : l0_5.length ≤ c0_5) (h : inner_Encode.f k a0_0 a0_1 a0_2 a0_3 l0_4 l0_5 a1 = some (r1, r2)) :
  Calls Tryz.prog 10 #[.agg #[.int .i64 a0_0, .int .i64 a0_1, .int .i64 a0_2, .string a0_3, .slice A0_4 l0_4.length c0_4, .slice A0_5 l0_5.length c0_5], .int .i64 a1] w fun e w' => e = .returned (.tuple #[.string r1, .int .i64 r2]) ∧ Below w.heap.size w w' := by
 have hu25 := Tryz.underlying25
 have hu71 := Tryz.underlying71
 have HR0_4 := Aside0.mk hr0_4
 have HC0_4 := Aside0.mk hc0_4
 clear hr0_4 hc0_4
 have HR0_5 := Aside0.mk hr0_5
 have HC0_5 := Aside0.mk hc0_5
 clear hr0_5 hc0_5
 have HB := as_ (Below.refl w.heap.size w)
 have H : ((disk_Size.f a1).bind fun t241 => (if t241 = true then ((inner_May.f k a0_0 a0_1 a0_2 a0_3 l0_4 l0_5 a1).bind fun t242 => (if t242 = true then ((inner_parts.f k a0_0 a0_1 a0_2 a0_3 l0_4 l0_5).bind fun bt243 => ((slot_Pack.f k (wrap64 (a1 - 16)) bt243.1 bt243.2).bind fun bt247 => (if bt247.2 = 0 then ((head_Seal.f k 3 a0_1 (l0_4.length : Int) a0_2 a0_0 bt247.1 a1).bind fun bt249 => (some (bt249.1, bt249.2))) else (some ((⟨#[]⟩ : ByteArray), bt247.2))))) else (some ((⟨#[]⟩ : ByteArray), 3)))) else (some ((⟨#[]⟩ : ByteArray), 4)))) = some (r1, r2) := h
 clear h
 obtain ⟨t241, A3, H⟩ := bN H
 (try dsimp only at H)
 by_cases c4 : t241 = true
 rotate_left
 ·replace c4 := Bool.eq_false_iff.mpr c4
  subst c4
  have H1 : (some ((⟨#[]⟩ : ByteArray), 4)) = some (r1, r2) := by rw [if_neg (show ¬ (false = true) by decide)] at H; exact H
  clear H
  have H := H1
  clear H1
  simp only [Option.some.injEq, Prod.mk.injEq] at H
  obtain ⟨rfl, rfl⟩ := H
  go_enter Tryz.func10, Tryz.ntmps10
  go_wp2_with (first | ((with_reducible refine gate_dst (N := 2) rfl ?_); refine box_event (by rfl) (N := 2) (by rfl) (cs := #[.int .i64 a0_0, .int .i64 a0_1, .int .i64 a0_2, .string a0_3, .slice A0_4 l0_4.length c0_4, .slice A0_5 l0_5.length c0_5]) (t := 25) gS ?_; intro gb240 hg w33 hbox hb; have BK240 := as_ (hbox); have GW240 := gw hg bA; have GE240 := gw hg bA; replace HB := as_ (below_step bA hb); clear hb hbox hg) | ((with_reducible refine gate_callee (f := 32) rfl ?_); refine goesL_ (some 11) rfl rfl Tryz.func32 (by kernel_rfl) rfl #[.int .i64 a1] rfl aO ?_; (with_reducible refine (disk_Size.calls a1 false _ A3.out).mono ?_); rintro e w34 ⟨rfl, hb⟩; refine ⟨_, rfl, ?_⟩; replace BK240 := bb BK240 hb; replace HB := as_ (below_step bA hb); (try clear hb); (try clear hi)))
  go_ret2
  exact ⟨eW, bA⟩
 
 subst c4
 have H1 : ((inner_May.f k a0_0 a0_1 a0_2 a0_3 l0_4 l0_5 a1).bind fun t242 => (if t242 = true then ((inner_parts.f k a0_0 a0_1 a0_2 a0_3 l0_4 l0_5).bind fun bt243 => ((slot_Pack.f k (wrap64 (a1 - 16)) bt243.1 bt243.2).bind fun bt247 => (if bt247.2 = 0 then ((head_Seal.f k 3 a0_1 (l0_4.length : Int) a0_2 a0_0 bt247.1 a1).bind fun bt249 => (some (bt249.1, bt249.2))) else (some ((⟨#[]⟩ : ByteArray), bt247.2))))) else (some ((⟨#[]⟩ : ByteArray), 3)))) = some (r1, r2) := by rw [if_pos rfl] at H; exact H
 clear H
 have H := H1
 clear H1
 obtain ⟨t242, A5, H⟩ := bN H
 (try dsimp only at H)
 by_cases c6 : t242 = true
 rotate_left
 ·replace c6 := Bool.eq_false_iff.mpr c6
  subst c6
  have H1 : (some ((⟨#[]⟩ : ByteArray), 3)) = some (r1, r2) := by rw [if_neg (show ¬ (false = true) by decide)] at H; exact H
  clear H
  have H := H1
  clear H1
  simp only [Option.some.injEq, Prod.mk.injEq] at H
  obtain ⟨rfl, rfl⟩ := H
  go_enter Tryz.func10, Tryz.ntmps10
  go_wp2_with (first | ((with_reducible refine gate_dst (N := 2) rfl ?_); refine box_event (by rfl) (N := 2) (by rfl) (cs := #[.int .i64 a0_0, .int .i64 a0_1, .int .i64 a0_2, .string a0_3, .slice A0_4 l0_4.length c0_4, .slice A0_5 l0_5.length c0_5]) (t := 25) gS ?_; intro gb240 hg w29 hbox hb; have BK240 := as_ (hbox); have GW240 := gw hg bA; have GE240 := gw hg bA; replace HB := as_ (below_step bA hb); clear hb hbox hg) | ((with_reducible refine gate_callee (f := 32) rfl ?_); refine goesL_ (some 11) rfl rfl Tryz.func32 (by kernel_rfl) rfl #[.int .i64 a1] rfl aO ?_; (with_reducible refine (disk_Size.calls a1 true _ A3.out).mono ?_); rintro e w30 ⟨rfl, hb⟩; refine ⟨_, rfl, ?_⟩; replace BK240 := bb BK240 hb; replace HB := as_ (below_step bA hb); (try clear hb); obtain ⟨hcz31_0, hcz31_1, hcz31_2, hcz31_3, hcz31_4, hcz31_5⟩ := zc6 BK240; obtain ⟨hfz31_0, hfz31_1, hfz31_2, hfz31_3, hfz31_4, hfz31_5⟩ := zf6 BK240) | ((with_reducible refine gate_callee (f := 15) rfl ?_); refine goesL_ (some 15) rfl rfl Tryz.func15 (by kernel_rfl) rfl #[.agg #[.int .i64 a0_0, .int .i64 a0_1, .int .i64 a0_2, .string a0_3, .slice A0_4 l0_4.length c0_4, .slice A0_5 l0_5.length c0_5], .int .i64 a1] rfl aO ?_; (with_reducible refine (inner_May.calls k a0_0 a0_1 a0_2 a0_3 _ _ l0_4 _ _ l0_5 a1 false _ ?side1 ?side2 ?side3 ?side4 A5.out).mono ?_); (case side1 => repeat (first | exact (Kd.C_below HR0_4.out HB.out) | (with_reducible refine Kd.C_alloc ?_ _) | (with_reducible refine Kd.C_drewN ?_ _) | (with_reducible refine Kd.C_drew ?_))); (case side2 => exact HC0_4.out); (case side3 => repeat (first | exact (Kd.C_below HR0_5.out HB.out) | (with_reducible refine Kd.C_alloc ?_ _) | (with_reducible refine Kd.C_drewN ?_ _) | (with_reducible refine Kd.C_drew ?_))); (case side4 => exact HC0_5.out); rintro e w32 ⟨rfl, hb⟩; refine ⟨_, rfl, ?_⟩; replace BK240 := bb BK240 hb; replace HB := as_ (below_step bA hb); (try clear hb); (try clear hi)))
  go_ret2
  exact ⟨eW, bA⟩
 subst c6
 have H1 : ((inner_parts.f k a0_0 a0_1 a0_2 a0_3 l0_4 l0_5).bind fun bt243 => ((slot_Pack.f k (wrap64 (a1 - 16)) bt243.1 bt243.2).bind fun bt247 => (if bt247.2 = 0 then ((head_Seal.f k 3 a0_1 (l0_4.length : Int) a0_2 a0_0 bt247.1 a1).bind fun bt249 => (some (bt249.1, bt249.2))) else (some ((⟨#[]⟩ : ByteArray), bt247.2))))) = some (r1, r2) := by rw [if_pos rfl] at H; exact H
 clear H
 have H := H1
 clear H1
 obtain ⟨⟨t243, t244⟩, A7, H⟩ := bN H
 (try dsimp only at H)
 obtain ⟨⟨t247, t248⟩, A8, H⟩ := bN H
 (try dsimp only at H)
 by_cases c9 : t248 = 0
 rotate_left
 ·rw [if_neg c9] at H
  have c9b0 : (t248 == 0) = false := beq_eq_false_iff_ne.mpr c9
  have c9b1 : (t248 != 0) = true := bne_iff_ne.mpr c9
  simp only [Option.some.injEq, Prod.mk.injEq] at H
  obtain ⟨rfl, rfl⟩ := H
  go_enter Tryz.func10, Tryz.ntmps10
  go_wp2_with (first | ((with_reducible refine gate_dst (N := 2) rfl ?_); refine box_event (by rfl) (N := 2) (by rfl) (cs := #[.int .i64 a0_0, .int .i64 a0_1, .int .i64 a0_2, .string a0_3, .slice A0_4 l0_4.length c0_4, .slice A0_5 l0_5.length c0_5]) (t := 25) gS ?_; intro gb240 hg w21 hbox hb; have BK240 := as_ (hbox); have GW240 := gw hg bA; have GE240 := gw hg bA; replace HB := as_ (below_step bA hb); clear hb hbox hg) | ((with_reducible refine gate_callee (f := 32) rfl ?_); refine goesL_ (some 11) rfl rfl Tryz.func32 (by kernel_rfl) rfl #[.int .i64 a1] rfl aO ?_; (with_reducible refine (disk_Size.calls a1 true _ A3.out).mono ?_); rintro e w22 ⟨rfl, hb⟩; refine ⟨_, rfl, ?_⟩; replace BK240 := bb BK240 hb; replace HB := as_ (below_step bA hb); (try clear hb); obtain ⟨hcz23_0, hcz23_1, hcz23_2, hcz23_3, hcz23_4, hcz23_5⟩ := zc6 BK240; obtain ⟨hfz23_0, hfz23_1, hfz23_2, hfz23_3, hfz23_4, hfz23_5⟩ := zf6 BK240) | ((with_reducible refine gate_callee (f := 15) rfl ?_); refine goesL_ (some 15) rfl rfl Tryz.func15 (by kernel_rfl) rfl #[.agg #[.int .i64 a0_0, .int .i64 a0_1, .int .i64 a0_2, .string a0_3, .slice A0_4 l0_4.length c0_4, .slice A0_5 l0_5.length c0_5], .int .i64 a1] rfl aO ?_; (with_reducible refine (inner_May.calls k a0_0 a0_1 a0_2 a0_3 _ _ l0_4 _ _ l0_5 a1 true _ ?side1 ?side2 ?side3 ?side4 A5.out).mono ?_); (case side1 => repeat (first | exact (Kd.C_below HR0_4.out HB.out) | (with_reducible refine Kd.C_alloc ?_ _) | (with_reducible refine Kd.C_drewN ?_ _) | (with_reducible refine Kd.C_drew ?_))); (case side2 => exact HC0_4.out); (case side3 => repeat (first | exact (Kd.C_below HR0_5.out HB.out) | (with_reducible refine Kd.C_alloc ?_ _) | (with_reducible refine Kd.C_drewN ?_ _) | (with_reducible refine Kd.C_drew ?_))); (case side4 => exact HC0_5.out); rintro e w24 ⟨rfl, hb⟩; refine ⟨_, rfl, ?_⟩; replace BK240 := bb BK240 hb; replace HB := as_ (below_step bA hb); (try clear hb); obtain ⟨hcz25_0, hcz25_1, hcz25_2, hcz25_3, hcz25_4, hcz25_5⟩ := zc6 BK240; obtain ⟨hfz25_0, hfz25_1, hfz25_2, hfz25_3, hfz25_4, hfz25_5⟩ := zf6 BK240) | ((with_reducible refine gate_callee (f := 33) rfl ?_); refine goesL_ (some 19) rfl rfl Tryz.func33 (by kernel_rfl) rfl #[.agg #[.int .i64 a0_0, .int .i64 a0_1, .int .i64 a0_2, .string a0_3, .slice A0_4 l0_4.length c0_4, .slice A0_5 l0_5.length c0_5]] rfl aO ?_; (with_reducible refine (inner_parts.calls k a0_0 a0_1 a0_2 a0_3 _ _ l0_4 _ _ l0_5 t243 t244 _ ?side1 ?side2 ?side3 ?side4 A7.out).mono ?_); (case side1 => repeat (first | exact (Kd.C_below HR0_4.out HB.out) | (with_reducible refine Kd.C_alloc ?_ _) | (with_reducible refine Kd.C_drewN ?_ _) | (with_reducible refine Kd.C_drew ?_))); (case side2 => exact HC0_4.out); (case side3 => repeat (first | exact (Kd.C_below HR0_5.out HB.out) | (with_reducible refine Kd.C_alloc ?_ _) | (with_reducible refine Kd.C_drewN ?_ _) | (with_reducible refine Kd.C_drew ?_))); (case side4 => exact HC0_5.out); rintro e w26 ⟨v245, rfl, ho0, hb⟩; refine ⟨_, rfl, ?_⟩; have HO246 := as_ (Kd.R_lower ho0 (below_size bA)); replace BK240 := bb BK240 hb; replace HB := as_ (below_step bA hb); (try clear hb); (try clear ho0); obtain ⟨Ao27, co27, eo27⟩ := Kd.R_slice HO246.out; subst eo27) | ((with_reducible refine gate_callee (f := 34) rfl ?_); refine goesL_ (some 27) rfl rfl Tryz.func34 (by kernel_rfl) rfl #[.int .i64 (wrap64 (a1 - 16)), .string t243, .slice Ao27 t244.length co27] rfl aO ?_; (first | (with_reducible refine (slot_Pack.calls k (wrap64 (a1 - 16)) t243 _ _ t244 t247 t248 _ ?side1 ?side2 A8.out).mono ?_) | (with_reducible refine (slot_Pack.calls k (a1 - 16) t243 _ _ t244 t247 t248 _ ?side1 ?side2 (by have e_ := A8.out; rwa [(by unfold wrap64; omega : wrap64 (a1 - 16) = (a1 - 16))] at e_)).mono ?_)); (case side1 => repeat (first | exact (Kd.R_reads' HO246.out).2.2 | (with_reducible refine Kd.C_alloc ?_ _) | (with_reducible refine Kd.C_drewN ?_ _) | (with_reducible refine Kd.C_drew ?_))); (case side2 => exact (Kd.R_reads' HO246.out).2.1); rintro e w28 ⟨rfl, hb⟩; refine ⟨_, rfl, ?_⟩; replace HO246 := as_ (Kd.R_below (rD HO246) hb); replace BK240 := bb BK240 hb; replace HB := as_ (below_step bA hb); (try clear hb); (try clear hi)))
  go_ret2
  exact ⟨eW, bA⟩
 rw [if_pos c9] at H
 have c9b0 : (t248 == 0) = true := beq_iff_eq.mpr c9
 have c9b1 : (t248 != 0) = false := bne_eq_false_iff_eq.mpr c9
 clear c9
 obtain ⟨⟨t249, t250⟩, A10, H⟩ := bN H
 (try dsimp only at H)
 simp only [Option.some.injEq, Prod.mk.injEq] at H
 obtain ⟨rfl, rfl⟩ := H
 go_enter Tryz.func10, Tryz.ntmps10
 go_wp2_with (first | ((with_reducible refine gate_dst (N := 2) rfl ?_); refine box_event (by rfl) (N := 2) (by rfl) (cs := #[.int .i64 a0_0, .int .i64 a0_1, .int .i64 a0_2, .string a0_3, .slice A0_4 l0_4.length c0_4, .slice A0_5 l0_5.length c0_5]) (t := 25) gS ?_; intro gb240 hg w11 hbox hb; have BK240 := as_ (hbox); have GW240 := gw hg bA; have GE240 := gw hg bA; replace HB := as_ (below_step bA hb); clear hb hbox hg) | ((with_reducible refine gate_callee (f := 32) rfl ?_); refine goesL_ (some 11) rfl rfl Tryz.func32 (by kernel_rfl) rfl #[.int .i64 a1] rfl aO ?_; (with_reducible refine (disk_Size.calls a1 true _ A3.out).mono ?_); rintro e w12 ⟨rfl, hb⟩; refine ⟨_, rfl, ?_⟩; replace BK240 := bb BK240 hb; replace HB := as_ (below_step bA hb); (try clear hb); obtain ⟨hcz13_0, hcz13_1, hcz13_2, hcz13_3, hcz13_4, hcz13_5⟩ := zc6 BK240; obtain ⟨hfz13_0, hfz13_1, hfz13_2, hfz13_3, hfz13_4, hfz13_5⟩ := zf6 BK240) | ((with_reducible refine gate_callee (f := 15) rfl ?_); refine goesL_ (some 15) rfl rfl Tryz.func15 (by kernel_rfl) rfl #[.agg #[.int .i64 a0_0, .int .i64 a0_1, .int .i64 a0_2, .string a0_3, .slice A0_4 l0_4.length c0_4, .slice A0_5 l0_5.length c0_5], .int .i64 a1] rfl aO ?_; (with_reducible refine (inner_May.calls k a0_0 a0_1 a0_2 a0_3 _ _ l0_4 _ _ l0_5 a1 true _ ?side1 ?side2 ?side3 ?side4 A5.out).mono ?_); (case side1 => repeat (first | exact (Kd.C_below HR0_4.out HB.out) | (with_reducible refine Kd.C_alloc ?_ _) | (with_reducible refine Kd.C_drewN ?_ _) | (with_reducible refine Kd.C_drew ?_))); (case side2 => exact HC0_4.out); (case side3 => repeat (first | exact (Kd.C_below HR0_5.out HB.out) | (with_reducible refine Kd.C_alloc ?_ _) | (with_reducible refine Kd.C_drewN ?_ _) | (with_reducible refine Kd.C_drew ?_))); (case side4 => exact HC0_5.out); rintro e w14 ⟨rfl, hb⟩; refine ⟨_, rfl, ?_⟩; replace BK240 := bb BK240 hb; replace HB := as_ (below_step bA hb); (try clear hb); obtain ⟨hcz15_0, hcz15_1, hcz15_2, hcz15_3, hcz15_4, hcz15_5⟩ := zc6 BK240; obtain ⟨hfz15_0, hfz15_1, hfz15_2, hfz15_3, hfz15_4, hfz15_5⟩ := zf6 BK240) | ((with_reducible refine gate_callee (f := 33) rfl ?_); refine goesL_ (some 19) rfl rfl Tryz.func33 (by kernel_rfl) rfl #[.agg #[.int .i64 a0_0, .int .i64 a0_1, .int .i64 a0_2, .string a0_3, .slice A0_4 l0_4.length c0_4, .slice A0_5 l0_5.length c0_5]] rfl aO ?_; (with_reducible refine (inner_parts.calls k a0_0 a0_1 a0_2 a0_3 _ _ l0_4 _ _ l0_5 t243 t244 _ ?side1 ?side2 ?side3 ?side4 A7.out).mono ?_); (case side1 => repeat (first | exact (Kd.C_below HR0_4.out HB.out) | (with_reducible refine Kd.C_alloc ?_ _) | (with_reducible refine Kd.C_drewN ?_ _) | (with_reducible refine Kd.C_drew ?_))); (case side2 => exact HC0_4.out); (case side3 => repeat (first | exact (Kd.C_below HR0_5.out HB.out) | (with_reducible refine Kd.C_alloc ?_ _) | (with_reducible refine Kd.C_drewN ?_ _) | (with_reducible refine Kd.C_drew ?_))); (case side4 => exact HC0_5.out); rintro e w16 ⟨v245, rfl, ho0, hb⟩; refine ⟨_, rfl, ?_⟩; have HO246 := as_ (Kd.R_lower ho0 (below_size bA)); replace BK240 := bb BK240 hb; replace HB := as_ (below_step bA hb); (try clear hb); (try clear ho0); obtain ⟨Ao17, co17, eo17⟩ := Kd.R_slice HO246.out; subst eo17) | ((with_reducible refine gate_callee (f := 34) rfl ?_); refine goesL_ (some 27) rfl rfl Tryz.func34 (by kernel_rfl) rfl #[.int .i64 (wrap64 (a1 - 16)), .string t243, .slice Ao17 t244.length co17] rfl aO ?_; (first | (with_reducible refine (slot_Pack.calls k (wrap64 (a1 - 16)) t243 _ _ t244 t247 t248 _ ?side1 ?side2 A8.out).mono ?_) | (with_reducible refine (slot_Pack.calls k (a1 - 16) t243 _ _ t244 t247 t248 _ ?side1 ?side2 (by have e_ := A8.out; rwa [(by unfold wrap64; omega : wrap64 (a1 - 16) = (a1 - 16))] at e_)).mono ?_)); (case side1 => repeat (first | exact (Kd.R_reads' HO246.out).2.2 | (with_reducible refine Kd.C_alloc ?_ _) | (with_reducible refine Kd.C_drewN ?_ _) | (with_reducible refine Kd.C_drew ?_))); (case side2 => exact (Kd.R_reads' HO246.out).2.1); rintro e w18 ⟨rfl, hb⟩; refine ⟨_, rfl, ?_⟩; replace HO246 := as_ (Kd.R_below (rD HO246) hb); replace BK240 := bb BK240 hb; replace HB := as_ (below_step bA hb); (try clear hb); obtain ⟨hcz19_0, hcz19_1, hcz19_2, hcz19_3, hcz19_4, hcz19_5⟩ := zc6 BK240; obtain ⟨hfz19_0, hfz19_1, hfz19_2, hfz19_3, hfz19_4, hfz19_5⟩ := zf6 BK240) | ((with_reducible refine gate_callee (f := 35) rfl ?_); refine goesL_ (some 45) rfl rfl Tryz.func35 (by kernel_rfl) rfl #[.agg #[.int .i64 3, .int .i64 a0_1, .int .i64 (l0_4.length : Int), .int .i64 a0_2, .int .i64 a0_0], .string t247, .int .i64 a1] rfl aO ?_; (with_reducible refine (head_Seal.calls k 3 a0_1 (l0_4.length : Int) a0_2 a0_0 t247 a1 t249 t250 _ A10.out).mono ?_); rintro e w20 ⟨rfl, hb⟩; refine ⟨_, rfl, ?_⟩; replace HO246 := as_ (Kd.R_below (rD HO246) hb); replace BK240 := bb BK240 hb; replace HB := as_ (below_step bA hb); (try clear hb); (try clear hi)))
 go_ret2
 exact ⟨eW, bA⟩
/-! ### withylaw11_Ref: function 12 -/
def withylaw11_Ref.f (a0_0 : Int) (a0_1 : Int) (a0_2 : Int) (a0_3 : ByteArray) (l0_4 : List Int) (l0_5 : List ByteArray) : Option (Int × Int × Int × ByteArray × List Int × List ByteArray) := some (a0_0, a0_1, a0_2, a0_3, l0_4, l0_5)
set_option maxHeartbeats 8000000 in
set_option maxRecDepth 100000 in
theorem withylaw11_Ref.calls (a0_0 : Int) (a0_1 : Int) (a0_2 : Int) (a0_3 : ByteArray) (P0_4_ : Nat → Prop) (A0_4 : Option Addr) (c0_4 : Nat) (l0_4 : List Int) (P0_5_ : Nat → Prop) (A0_5 : Option Addr) (c0_5 : Nat) (l0_5 : List ByteArray) (r1 : Int) (r2 : Int) (r3 : Int) (r4 : ByteArray) (r5 : List Int) (r6 : List ByteArray) (w : World) (hs0_4 : Kd.V (Kd.int .i64) 3 w w.heap.size (fun k_ => P0_4_ k_) (.slice A0_4 l0_4.length c0_4) l0_4) (hs0_5 : Kd.V Kd.string 9 w w.heap.size (fun k_ => P0_5_ k_) (.slice A0_5 l0_5.length c0_5) l0_5) (h : withylaw11_Ref.f a0_0 a0_1 a0_2 a0_3 l0_4 l0_5 = some (r1, r2, r3, r4, r5, r6)) :
  Calls Tryz.prog 12 #[.agg #[.int .i64 a0_0, .int .i64 a0_1, .int .i64 a0_2, .string a0_3, .slice A0_4 l0_4.length c0_4, .slice A0_5 l0_5.length c0_5]] w fun e w' => ∃ v4_ v5_ : Value, e = .returned (.agg #[.int .i64 r1, .int .i64 r2, .int .i64 r3, .string r4, v4_, v5_]) ∧ Kd.V (Kd.int .i64) 3 w' w.heap.size (fun k_ => ((P0_4_ k_ ∨ P0_5_ k_) ∨ w.heap.size ≤ k_)) v4_ r5 ∧ Kd.V Kd.string 9 w' w.heap.size (fun k_ => ((P0_4_ k_ ∨ P0_5_ k_) ∨ w.heap.size ≤ k_)) v5_ r6 ∧ Below w.heap.size w w' := by
 have hu25 := Tryz.underlying25
 have hu33 := Tryz.underlying33
 have HO0_4 := as_ (show Kd.V (Kd.int .i64) 3 w w.heap.size (fun k_ => ((P0_4_ k_ ∨ P0_5_ k_) ∨ w.heap.size ≤ k_)) (.slice A0_4 l0_4.length c0_4) l0_4 from Kd.V_mono hs0_4 (fun k_ hk => .inl (.inl hk)))
 have HO0_5 := as_ (show Kd.V Kd.string 9 w w.heap.size (fun k_ => ((P0_4_ k_ ∨ P0_5_ k_) ∨ w.heap.size ≤ k_)) (.slice A0_5 l0_5.length c0_5) l0_5 from Kd.V_mono hs0_5 (fun k_ hk => .inl (.inr hk)))
 have HB := as_ (Below.refl w.heap.size w)
 have H : (some (a0_0, a0_1, a0_2, a0_3, l0_4, l0_5)) = some (r1, r2, r3, r4, r5, r6) := h
 clear h
 simp only [Option.some.injEq, Prod.mk.injEq] at H
 obtain ⟨rfl, rfl, rfl, rfl, rfl, rfl⟩ := H
 go_enter Tryz.func12, Tryz.ntmps12
 go_wp2_with (first | ((with_reducible refine gate_dst (N := 1) rfl ?_); refine box_event (by rfl) (N := 1) (by rfl) (cs := #[.int .i64 a0_0, .int .i64 a0_1, .int .i64 a0_2, .string a0_3, .slice A0_4 l0_4.length c0_4, .slice A0_5 l0_5.length c0_5]) (t := 25) gS ?_; intro gb251 hg w2 hbox hb; have BK251 := as_ (hbox); have GW251 := gw hg bA; have GE251 := gw hg bA; replace HO0_4 := as_ (Kd.V_below (Kd.V_elderB (by (with_reducible repeat (first | apply Kd.V_alloc | apply Kd.V_drewN | apply Kd.V_drew)); exact HO0_4.out) gb251 (Nat.le_of_eq hg.symm)) hb); replace HO0_5 := as_ (Kd.V_below (Kd.V_elderB (by (with_reducible repeat (first | apply Kd.V_alloc | apply Kd.V_drewN | apply Kd.V_drew)); exact HO0_5.out) gb251 (Nat.le_of_eq hg.symm)) hb); replace HB := as_ (below_step bA hb); clear hb hbox hg) | ((with_reducible refine gate_dst (N := 2) rfl ?_); refine box_event ?hg (N := 2) ?hd (cs := #[.int .i64 0, .int .i64 0, .int .i64 0, .string (⟨#[]⟩ : ByteArray), .slice none 0 0, .slice none 0 0]) (t := 33) ?hr ?_; (case hd => rfl); (case hg => rfl); (case hr => first | (go_simp; done) | (go_simp; rfl)); intro gb252 hg w3 hbox hb; have BK252 := as_ (hbox); have GW252 := gw hg bA; have GE252 := gw hg bA; have NB251_252 := nl BK251 hg; have NB252_251 := ng BK251 hg; replace HO0_4 := as_ (Kd.V_below (Kd.V_elderB (by (with_reducible repeat (first | apply Kd.V_alloc | apply Kd.V_drewN | apply Kd.V_drew)); exact HO0_4.out) gb252 (Nat.le_of_eq hg.symm)) hb); replace HO0_5 := as_ (Kd.V_below (Kd.V_elderB (by (with_reducible repeat (first | apply Kd.V_alloc | apply Kd.V_drewN | apply Kd.V_drew)); exact HO0_5.out) gb252 (Nat.le_of_eq hg.symm)) hb); replace BK251 := bb BK251 hb; replace HB := as_ (below_step bA hb); clear hb hbox hg; have hnb4 := NB251_252.out; have hnc4 := NB252_251.out; obtain ⟨hcz5_0, hcz5_1, hcz5_2, hcz5_3, hcz5_4, hcz5_5⟩ := zc6 BK251; obtain ⟨hfz5_0, hfz5_1, hfz5_2, hfz5_3, hfz5_4, hfz5_5⟩ := zf6 BK251; obtain ⟨hcz6_0, hcz6_1, hcz6_2, hcz6_3, hcz6_4, hcz6_5⟩ := zc6 BK252; obtain ⟨hfz6_0, hfz6_1, hfz6_2, hfz6_3, hfz6_4, hfz6_5⟩ := zf6 BK252))
 refine bodyPost_ret (results_cell_row rfl _ _ gb252 33 #[.int .i64 a0_0, .int .i64 a0_1, .int .i64 a0_2, .string a0_3, .slice A0_4 l0_4.length c0_4, .slice A0_5 l0_5.length c0_5] (0, 0) _ rfl (by refine bx ?_; refine blk_put (cs := #[.int .i64 a0_0, .int .i64 a0_1, .int .i64 a0_2, .string a0_3, .slice A0_4 l0_4.length c0_4, .slice none 0 0]) ?_ 5 _ rfl; refine bx ?_; refine blk_put (cs := #[.int .i64 a0_0, .int .i64 a0_1, .int .i64 a0_2, .string a0_3, .slice none 0 0, .slice none 0 0]) ?_ 4 _ rfl; refine bx ?_; refine blk_put (cs := #[.int .i64 a0_0, .int .i64 a0_1, .int .i64 a0_2, .string (⟨#[]⟩ : ByteArray), .slice none 0 0, .slice none 0 0]) ?_ 3 _ rfl; refine bx ?_; refine blk_put (cs := #[.int .i64 a0_0, .int .i64 a0_1, .int .i64 0, .string (⟨#[]⟩ : ByteArray), .slice none 0 0, .slice none 0 0]) ?_ 2 _ rfl; refine bx ?_; refine blk_put (cs := #[.int .i64 a0_0, .int .i64 0, .int .i64 0, .string (⟨#[]⟩ : ByteArray), .slice none 0 0, .slice none 0 0]) ?_ 1 _ rfl; refine bx ?_; refine blk_put (cs := #[.int .i64 0, .int .i64 0, .int .i64 0, .string (⟨#[]⟩ : ByteArray), .slice none 0 0, .slice none 0 0]) ?_ 0 _ rfl; refine bx ?_; exact BK252.out) Tryz.underlying33 rfl (by kernel_rfl)) rfl ?_
 exact ⟨_, _, eW, by (with_reducible repeat (first | apply Kd.V_alloc | apply Kd.V_drewN | apply Kd.V_drew)); exact Kd.V_mono (Kd.V_far (p := ⟨gb252, 5, none⟩) (Kd.V_far (p := ⟨gb252, 4, none⟩) (Kd.V_far (p := ⟨gb252, 3, none⟩) (Kd.V_far (p := ⟨gb252, 2, none⟩) (Kd.V_far (p := ⟨gb252, 1, none⟩) (Kd.V_far (p := ⟨gb252, 0, none⟩) (Kd.V_mono HO0_4.out (fun k_ hk => (⟨hk, hk.2⟩ : _ ∧ k_ ≠ gb252))) (fun _ hk => hk.2) (.int .i64 a0_0)) (fun _ hk => hk.2) (.int .i64 a0_1)) (fun _ hk => hk.2) (.int .i64 a0_2)) (fun _ hk => hk.2) (.string a0_3)) (fun _ hk => hk.2) (.slice A0_4 l0_4.length c0_4)) (fun _ hk => hk.2) (.slice A0_5 l0_5.length c0_5)) (fun _ hk => hk.1.1.1), by (with_reducible repeat (first | apply Kd.V_alloc | apply Kd.V_drewN | apply Kd.V_drew)); exact Kd.V_mono (Kd.V_far (p := ⟨gb252, 5, none⟩) (Kd.V_far (p := ⟨gb252, 4, none⟩) (Kd.V_far (p := ⟨gb252, 3, none⟩) (Kd.V_far (p := ⟨gb252, 2, none⟩) (Kd.V_far (p := ⟨gb252, 1, none⟩) (Kd.V_far (p := ⟨gb252, 0, none⟩) (Kd.V_mono HO0_5.out (fun k_ hk => (⟨hk, hk.2⟩ : _ ∧ k_ ≠ gb252))) (fun _ hk => hk.2) (.int .i64 a0_0)) (fun _ hk => hk.2) (.int .i64 a0_1)) (fun _ hk => hk.2) (.int .i64 a0_2)) (fun _ hk => hk.2) (.string a0_3)) (fun _ hk => hk.2) (.slice A0_4 l0_4.length c0_4)) (fun _ hk => hk.2) (.slice A0_5 l0_5.length c0_5)) (fun _ hk => hk.1.1.1), bA⟩

/-! ### word_Read: function 78 -/
mutual
def word_Read.j0 : Nat → ByteArray → Int → Bool → Option (Int × Int)
 | 0, _, _, _ => none
 | k + 1, x0, x1, x15 => if x15 = true then (some (0, 4)) else (if (wrap64 ((x0.size : Int) - x1)) < 4 then (some (0, 7)) else (word_Read.l0 k x0 x1 0 0))
def word_Read.l0 : Nat → ByteArray → Int → Int → Int → Option (Int × Int)
 | 0, _, _, _, _ => none
 | k + 1, x0, x1, x6, x21 => if x21 < 4 then (if 0 ≤ (wrap64 (x1 + x21)) then (if (wrap64 (x1 + x21)) < (x0.size : Int) then (if 0 ≤ (wrap64 (8 * x21)) then (word_Read.l0 k x0 x1 (Go.bits .or .u32 x6 (shl .u32 ((bt x0 (wrap64 (x1 + x21))) % 4294967296) (wrap64 (8 * x21)))) (wrap64 (x21 + 1))) else (none)) else (none)) else (none)) else (some (x6, 0))
end
def word_Read.f (k : Nat) (a0 : ByteArray) (a1 : Int) : Option (Int × Int) := if a1 < 0 then (word_Read.j0 k a0 a1 true) else (word_Read.j0 k a0 a1 (decide (a1 > (a0.size : Int))))
theorem word_Read.mono_l : ∀ k, (∀ y0 y1 y2, LeO (word_Read.j0 k y0 y1 y2) (word_Read.j0 (k + 1) y0 y1 y2)) ∧ (∀ y0 y1 y2 y3, LeO (word_Read.l0 k y0 y1 y2 y3) (word_Read.l0 (k + 1) y0 y1 y2 y3))
 | 0 => ⟨fun _ _ _ r h => by simp [word_Read.j0] at h, fun _ _ _ _ r h => by simp [word_Read.l0] at h⟩
 | k + 1 => by
  obtain ⟨ih0, ih1⟩ := word_Read.mono_l k
  refine ⟨?_, ?_⟩
  ·intro y0 y1 y2
   unfold word_Read.j0
   repeat' first
   | (with_reducible exact ih0 _ _ _)
   | (with_reducible exact ih1 _ _ _ _)
   | (with_reducible exact LeO.refl _)
   | (with_reducible exact LeO.none _)
   | (with_reducible refine LeO.ite ?_ ?_)
   | (with_reducible refine LeO.bind ?_ (fun _ => ?_))
   | exact ih0 _ _ _
   | exact ih1 _ _ _ _
   | exact LeO.none _
   | refine LeO.ite ?_ ?_
   | refine LeO.bind ?_ (fun _ => ?_)
  ·intro y0 y1 y2 y3
   unfold word_Read.l0
   repeat' first
   | (with_reducible exact ih0 _ _ _)
   | (with_reducible exact ih1 _ _ _ _)
   | (with_reducible exact LeO.refl _)
   | (with_reducible exact LeO.none _)
   | (with_reducible refine LeO.ite ?_ ?_)
   | (with_reducible refine LeO.bind ?_ (fun _ => ?_))
   | exact ih0 _ _ _
   | exact ih1 _ _ _ _
   | exact LeO.none _
   | refine LeO.ite ?_ ?_
   | refine LeO.bind ?_ (fun _ => ?_)
theorem word_Read.mono : ∀ a0 a1 k, LeO (word_Read.f k a0 a1) (word_Read.f (k + 1) a0 a1) := by
 intro a0 a1 k
 obtain ⟨ih0, ih1⟩ := word_Read.mono_l k
 unfold word_Read.f
 repeat' first
   | (with_reducible exact ih0 _ _ _)
   | (with_reducible exact ih1 _ _ _ _)
   | (with_reducible exact LeO.refl _)
   | (with_reducible exact LeO.none _)
   | (with_reducible refine LeO.ite ?_ ?_)
   | (with_reducible refine LeO.bind ?_ (fun _ => ?_))
   | exact ih0 _ _ _
   | exact ih1 _ _ _ _
   | exact LeO.none _
   | refine LeO.ite ?_ ?_
   | refine LeO.bind ?_ (fun _ => ?_)
set_option maxHeartbeats 8000000 in
set_option maxRecDepth 100000 in
theorem word_Read.calls (k : Nat) (a0 : ByteArray) (a1 : Int) (r1 : Int) (r2 : Int) (w : World) (h : word_Read.f k a0 a1 = some (r1, r2)) :
  Calls Tryz.prog 78 #[.string a0, .int .i64 a1] w fun e w' => e = .returned (.tuple #[.int .u32 r1, .int .i64 r2]) ∧ Drawn0 w w' := by
 have H : (if a1 < 0 then (word_Read.j0 k a0 a1 true) else (word_Read.j0 k a0 a1 (decide (a1 > (a0.size : Int))))) = some (r1, r2) := h
 clear h
 have HC3 := Aside0.mk H
 clear H
 go_enter Tryz.func78, Tryz.ntmps78
 go_upto_region 1 with (fail)
 go_cut [15] (fun v15 wc => ∃ (kq : Nat) (x15_2 : Bool), v15 = .bool x15_2 ∧ Aside0 (word_Read.j0 kq a0 a1 x15_2 = some (r1, r2)) ∧ Aside0 (kq ≤ k) ∧ Drawn0 w wc)
 case first =>
  have H := HC3.out
  clear HC3
  by_cases c4 : a1 < 0
  rotate_left
  ·rw [if_neg c4] at H
   have c4b0 := decide_eq_false c4
   clear c4
   (first | rw [c4b0] | (simp only [i64_w, i32_w]; rw [c4b0]) | rw [c4b1] | skip)
   have H' := Aside0.mk H
   clear H
   go_wp2
   go_meet
   case rel => exact ⟨_, (decide (a1 > (a0.size : Int))), (by first | rfl | (simp; done) | (simp [*]; done)), H', ⟨by first | omega | exact Nat.le_refl _⟩, by repeat (first | exact Drawn0.refl _ | apply Drawn0.step)⟩
  rw [if_pos c4] at H
  have c4b0 := decide_eq_true c4
  clear c4
  (first | rw [c4b0] | (simp only [i64_w, i32_w]; rw [c4b0]) | rw [c4b1] | skip)
  have H' := Aside0.mk H
  clear H
  go_wp2
  go_meet
  case rel => exact ⟨_, (true), (by first | rfl | (simp; done) | (simp [*]; done)), H', ⟨by first | omega | exact Nat.le_refl _⟩, by repeat (first | exact Drawn0.refl _ | apply Drawn0.step)⟩
 case rest =>
  clear HC3
  try clear p2
  try clear c4
  try clear c4b0
  try clear c4b1
  obtain ⟨kq, x15_2, rfl, HA, HJ2, ⟨mc2, rfl⟩⟩ := hcut
  cases kq with
  | zero => exact absurd HA.out (by simp [word_Read.j0])
  | succ kj2 =>
   have H := HA.out
   clear HA
   simp only [word_Read.j0] at H
   by_cases c5 : x15_2 = true
   ·subst c5
    have H1 : (some (0, 4)) = some (r1, r2) := by rw [if_pos rfl] at H; exact H
    clear H
    have H := H1
    clear H1
    simp only [Option.some.injEq, Prod.mk.injEq] at H
    obtain ⟨rfl, rfl⟩ := H
    go_wp2
    go_ret2
    exact ⟨by first | rfl | (simp; done) | (simp [*]; done), by repeat (first | exact Drawn0.refl _ | apply Drawn0.step)⟩
   replace c5 := Bool.eq_false_iff.mpr c5
   subst c5
   have H1 : (if (wrap64 ((a0.size : Int) - a1)) < 4 then (some (0, 7)) else (word_Read.l0 kj2 a0 a1 0 0)) = some (r1, r2) := by rw [if_neg (show ¬ (false = true) by decide)] at H; exact H
   clear H
   have H := H1
   clear H1
   by_cases c6 : (wrap64 ((a0.size : Int) - a1)) < 4
   ·rw [if_pos c6] at H
    have c6b0 := decide_eq_true c6
    clear c6
    simp only [Option.some.injEq, Prod.mk.injEq] at H
    obtain ⟨rfl, rfl⟩ := H
    go_wp2
    go_ret2
    exact ⟨by first | rfl | (simp; done) | (simp [*]; done), by repeat (first | exact Drawn0.refl _ | apply Drawn0.step)⟩
   rw [if_neg c6] at H
   have c6b0 := decide_eq_false c6
   clear c6
   have H' := Aside0.mk H
   clear H
   go_wp2
   go_loopg [6, 21] kj2 (fun kq v6 v21 w' => ∃ (x6_2 : Int) (x21_2 : Int), v6 = .int .u32 x6_2 ∧ v21 = .int .i64 x21_2 ∧ Aside0 (word_Read.l0 kq a0 a1 x6_2 x21_2 = some (r1, r2)) ∧ Aside0 (kq ≤ kj2) ∧ Drawn0 w w')
   case atStart => exact ⟨(0), (0), (by first | rfl | (simp; done) | (simp [*]; done)), (by first | rfl | (simp; done) | (simp [*]; done)), H', ⟨Nat.le_refl _⟩, by repeat (first | exact Drawn0.refl _ | apply Drawn0.step)⟩
   case round =>
    clear H'
    try clear c2
    try clear p2
    try clear c4
    try clear c4b0
    try clear c4b1
    try clear c5
    try clear c6
    try clear c6b0
    try clear p6
    try clear p2
    obtain ⟨x6_2, x21_2, rfl, rfl, HA, HK2, ⟨m2, rfl⟩⟩ := hrel
    cases gk with
    | zero => exact absurd HA.out (by simp [word_Read.l0])
    | succ k2 =>
     have H := HA.out
     clear HA
     simp only [word_Read.l0] at H
     by_cases c7 : x21_2 < 4
     rotate_left
     ·rw [if_neg c7] at H
      have c7b0 := decide_eq_false c7
      clear c7
      simp only [Option.some.injEq, Prod.mk.injEq] at H
      obtain ⟨rfl, rfl⟩ := H
      go_wp2
      go_ret2
      exact ⟨by first | rfl | (simp; done) | (simp [*]; done), by repeat (first | exact Drawn0.refl _ | apply Drawn0.step)⟩
 
     rw [if_pos c7] at H
     have c7b0 := decide_eq_true c7
     clear c7
     obtain ⟨ji8, hji8⟩ : ∃ j_ : Int, (wrap64 (a1 + x21_2)) = j_ := ⟨_, rfl⟩
     replace H : (if 0 ≤ (ji8) then (if (ji8) < (a0.size : Int) then (if 0 ≤ (wrap64 (8 * x21_2)) then (word_Read.l0 k2 a0 a1 (Go.bits .or .u32 x6_2 (shl .u32 ((bt a0 (ji8)) % 4294967296) (wrap64 (8 * x21_2)))) (wrap64 (x21_2 + 1))) else (none)) else (none)) else (none)) = some (r1, r2) := by first | (rw [hji8] at H; exact H) | (simp only [hji8] at H ⊢; exact H)
     have hji8w : (IntKind.i64.wrap (a1 + x21_2)) = ji8 := (i64_w _).trans hji8
     obtain ⟨c9, H⟩ := iN (c := 0 ≤ (ji8)) H
     have c9b0 := decide_eq_true c9
     clear c9
     obtain ⟨c10, H⟩ := iN (c := (ji8) < (a0.size : Int)) H
     have c10b0 := decide_eq_true c10
     clear c10
     obtain ⟨ji12, hji12⟩ : ∃ j_ : Int, (wrap64 (8 * x21_2)) = j_ := ⟨_, rfl⟩
     replace H : (if 0 ≤ (ji12) then (word_Read.l0 k2 a0 a1 (Go.bits .or .u32 x6_2 (shl .u32 ((bt a0 (ji8)) % 4294967296) (ji12))) (wrap64 (x21_2 + 1))) else (none)) = some (r1, r2) := by first | (rw [hji12] at H; exact H) | (simp only [hji12] at H ⊢; exact H)
     have hji12w : (IntKind.i64.wrap (8 * x21_2)) = ji12 := (i64_w _).trans hji12
     obtain ⟨c13, H⟩ := iN (c := 0 ≤ (ji12)) H
     have c13b0 := eq_true c13
     have c13b1 := decide_eq_true c13
     clear c13
     obtain ⟨ji14, hji14⟩ : ∃ j_ : Int, (shl .u32 ((bt a0 (ji8)) % 4294967296) (ji12)) = j_ := ⟨_, rfl⟩
     replace H : (word_Read.l0 k2 a0 a1 (Go.bits .or .u32 x6_2 (ji14)) (wrap64 (x21_2 + 1))) = some (r1, r2) := by first | (rw [hji14] at H; exact H) | (simp only [hji14] at H ⊢; exact H)
     have hji14_ : (IntKind.u32.wrap (((bt a0 (ji8)) % 4294967296) * 2 ^ min (ji12).toNat 32)) = ji14 := hji14
     have hji14z : (ji12) ≤ 32 → (IntKind.u32.wrap (((bt a0 (ji8)) % 4294967296) * 2 ^ (ji12).toNat)) = ji14 := shl_small hji14
     have H' := Aside0.mk H
     clear H
     have p11 : 0 ≤ ((ji8) : Int) := of_decide_eq_true aM
     have q11 : (ji8) < (a0.size : Int) := of_decide_eq_true aM
     have hx11 := bt_at a0 (ji8)
     replace p11 := eq_true p11
     replace q11 := eq_true q11
     go_wp2
     go_roundg k2
     case measure => have := HJ2.out; have := HK2.out; omega
     case rel => exact ⟨(Go.bits .or .u32 x6_2 (ji14)), (wrap64 (x21_2 + 1)), (by first | rfl | (simp; done) | (simp only [← hji14] <;> (first | rfl | simp)) | (simp [*]; done)), (by first | rfl | (simp; done) | (simp [*]; done)), (by first | exact H' | (rw [hji14]; exact H') | (rw [hji12]; exact H') | (rw [hji8]; exact H')), ⟨by have := HJ2.out; have := HK2.out; omega⟩, by repeat (first | exact Drawn0.refl _ | apply Drawn0.step)⟩
end Go.Proofs.YtafebmhmcdnhkaaGreat.P
