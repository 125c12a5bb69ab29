/- What is proved here: for functions of the Go text, a Lean function each, and that the call comes to just what it answers. Conditions: as each contract names them. Written by wip/tools/myprint.py, a driver of the print of the kit. -/
import Derived.Test.YtafebmhmcdnhkaaGreatP0
import Derived.Test.YtafebmhmcdnhkaaGreatP4
import Derived.Test.YtafebmhmcdnhkaaGreatP5
import Derived.Test.YtafebmhmcdnhkaaGreatWAbbr
namespace Go.Proofs.YtafebmhmcdnhkaaGreat.P
open Go.RowKit Go.Proofs.YtafebmhmcdnhkaaGreatW.PrintWords Go.Proofs.YtafebmhmcdnhkaaGreatW.PrintLast Go.Proofs.YtafebmhmcdnhkaaGreatW.PrintMore Go.Proofs.YtafebmhmcdnhkaaGreatW.Abbr
-- PACKED
attribute [local go_sem] max2_int min2_int max_two min_two max_three min_three max_four min_four Go.Proofs.YtafebmhmcdnhkaaGreatLaws.str_leq Go.Proofs.YtafebmhmcdnhkaaGreatLaws.str_gtr Go.Proofs.YtafebmhmcdnhkaaGreatLaws.str_geq Go.Proofs.YtafebmhmcdnhkaaGreatLaws.max2_str Go.Proofs.YtafebmhmcdnhkaaGreatLaws.min2_str   -- for this text's walks alone
set_option linter.unusedVariables false
set_option linter.unusedSimpArgs false

/-! ### inner_Ends: function 20, by hand -/
section
open Go.Shelf Go.Proofs.YtafebmhmcdnhkaaGreatRange
attribute [local go_sem] Oper.semAt_some
def inner_Ends.f (a0_0 : Int) (a0_1 : Int) (a0_2 : Int) (a0_3 : ByteArray) (l0_4 : List Int) (l0_5 : List ByteArray) (a1 : ByteArray) (a2 : Int) : Option (ByteArray × ByteArray × Bool) :=
 if l0_5.length ≤ 9223372036854775806 then (if 0 ≤ a2 ∧ a2 < (l0_5.length : Int) then some (rdOf ByteArray.empty (a1 :: l0_5) a2, rdOf ByteArray.empty l0_5 a2, true) else (if a2 = (l0_5.length : Int) then some (rdOf ByteArray.empty (a1 :: l0_5) a2, a0_3, a0_2 != 0) else some (⟨#[]⟩, ⟨#[]⟩, false))) else none
/-- What lies in memory between two rounds. -/
structure EndsAt (w : World) (rec : LoopRec) (nv : Array Value) (i : Int) (x y : ByteArray) (b : Bool) (lo : ByteArray) (st : Loop) (wr : World) : Prop where
 nb : wr.heap[w.heap.size + 5]? = some (.cells nv 25 (0, 0))
 ib : wr.heap[w.heap.size + 1]? = some (.cells #[.int .i64 i] 3 (0, 0))
 r1 : wr.heap[w.heap.size + 2]? = some (.cells #[.string x] 9 (0, 0))
 r2 : wr.heap[w.heap.size + 3]? = some (.cells #[.string y] 9 (0, 0))
 r3 : wr.heap[w.heap.size + 4]? = some (.cells #[.bool b] 4 (0, 0))
 lb : wr.heap[w.heap.size + 6]? = some (.cells #[.string lo] 9 (0, 0))
 dd : wr.heap[w.heap.size + 7]? = some (.deferred (some []))
 lp : wr.heap[w.heap.size + 8]? = some (.loop st)
 below : Below w.heap.size w wr
def ends_int : Value → Nat | .int _ i => i.toNat | _ => 0
theorem ends_results {fn : Func} {p q s : Tmp} (h : fn.results = #[.cell p 9, .cell q 9, .cell s 4]) (tmps : Array Value) (w : World) {a1 a2 a3 : Addr} {v1 v2 v3 : Value} (hp : tmps.getD p undef = .pointer (some a1)) (hq : tmps.getD q undef = .pointer (some a2)) (hs : tmps.getD s undef = .pointer (some a3)) (c1 : w.cell? a1 = some v1) (c2 : w.cell? a2 = some v2) (c3 : w.cell? a3 = some v3) :
  (results fn tmps).run Tryz.prog w = .ok (.tuple #[v1, v2, v3]) w := by
 have u1 := Tryz.underlying9
 have u2 := Tryz.underlying4
 simp only [Array.getD_eq_getD_getElem?] at hp hq hs
 simp only [results, h]
 simp [Sem.run_bind, Result.andThen, asAddr, hp, hq, hs, loadVar, u1, u2, go_sem, c1, c2, c3]
theorem ends_cons (x : ByteArray) (l : List ByteArray) (j : Nat) : rdOf ByteArray.empty (x :: l) ((j + 1 : Nat) : Int) = rdOf ByteArray.empty l (j : Int) := by
 unfold rdOf
 rw [Int.toNat_natCast, Int.toNat_natCast, List.getD_cons_succ]
theorem inner_spans.calls (v0 : Array Value) (hv : v0.size = 6) (a1 : ByteArray) (w : World) :
  Calls Tryz.prog 54 #[.agg v0, .string a1] w fun e w' => e = .returned (.func (.func 86) #[] #[.pointer (some ⟨w.heap.size, 0, none⟩), .pointer (some ⟨w.heap.size + 1, 0, none⟩)]) ∧ w' = (w.alloc (.cells v0 25)).alloc (.cells #[.string a1] 9) := by
 obtain ⟨l⟩ := v0
 match l, hv with
 | [x0, x1, x2, x3, x4, x5], _ =>
  go_enter Tryz.func54, Tryz.ntmps54
  go_wp2
  go_ret
  exact ⟨rfl, rfl⟩
theorem new7 (w : World) (o0 o1 o2 o3 o4 o5 o6 : Obj) {W : World} (e : ((((((w.alloc o0).alloc o1).alloc o2).alloc o3).alloc o4).alloc o5).alloc o6 = W) :
  W.heap.size = w.heap.size + 7 ∧ W.heap[w.heap.size + 1]? = some o1 ∧ W.heap[w.heap.size + 2]? = some o2 ∧ W.heap[w.heap.size + 3]? = some o3 ∧ W.heap[w.heap.size + 4]? = some o4 ∧ W.heap[w.heap.size + 5]? = some o5 ∧ W.heap[w.heap.size + 6]? = some o6 ∧ Below w.heap.size w W := by
 subst e
 have h1 := blk_new (w.alloc o0) o1
 have h2 := blk_new ((w.alloc o0).alloc o1) o2
 have h3 := blk_new (((w.alloc o0).alloc o1).alloc o2) o3
 have h4 := blk_new ((((w.alloc o0).alloc o1).alloc o2).alloc o3) o4
 have h5 := blk_new (((((w.alloc o0).alloc o1).alloc o2).alloc o3).alloc o4) o5
 have h6 := blk_new ((((((w.alloc o0).alloc o1).alloc o2).alloc o3).alloc o4).alloc o5) o6
 simp only [World.size_alloc, Nat.add_assoc, Nat.reduceAdd] at h1 h2 h3 h4 h5 h6
 refine ⟨by simp only [World.size_alloc, Nat.add_assoc, Nat.reduceAdd], ?_, ?_, ?_, ?_, ?_, h6, ?_⟩
 ·repeat (first | exact h1 | refine blk_alloc ?_ _)
 ·repeat (first | exact h2 | refine blk_alloc ?_ _)
 ·repeat (first | exact h3 | refine blk_alloc ?_ _)
 ·repeat (first | exact h4 | refine blk_alloc ?_ _)
 ·exact blk_alloc h5 _
 ·repeat (first | exact Below.refl _ _ | refine below_alloc ?_ _)
theorem ends_putObj {w W : World} {l : Nat} (o : Obj) (h : Below w.heap.size w W) (hl : w.heap.size ≤ l) : Below w.heap.size w (W.putObj l o) :=
 ⟨h.os, h.tape, h.output, by have := h.size; simpa using this, fun k hk => (World.putObj_heap_other (by omega)).trans (h.block k hk)⟩
/-- All blocks but one stay. -/
theorem EndsAt.but {w : World} {rec : LoopRec} {nv : Array Value} {i : Int} {x y : ByteArray} {b : Bool} {lo : ByteArray} {st st' : Loop} {wr W : World} (h : EndsAt w rec nv i x y b lo st wr) (hk : ∀ k, w.heap.size ≤ k → k < w.heap.size + 8 → W.heap[k]? = wr.heap[k]?) (hl : W.heap[w.heap.size + 8]? = some (.loop st')) (hb : Below w.heap.size w W) : EndsAt w rec nv i x y b lo st' W :=
 ⟨(hk _ (by omega) (by omega)).trans h.nb, (hk _ (by omega) (by omega)).trans h.ib, (hk _ (by omega) (by omega)).trans h.r1, (hk _ (by omega) (by omega)).trans h.r2, (hk _ (by omega) (by omega)).trans h.r3, (hk _ (by omega) (by omega)).trans h.lb, (hk _ (by omega) (by omega)).trans h.dd, hl, hb⟩
set_option maxHeartbeats 4000000 in
set_option maxRecDepth 100000 in
theorem inner_Ends.calls (a0_0 : Int) (a0_1 : Int) (a0_2 : Int) (a0_3 : ByteArray) (A0_4 : Option Addr) (c0_4 : Nat) (l0_4 : List Int) (A0_5 : Option Addr) (c0_5 : Nat) (l0_5 : List ByteArray) (a1 : ByteArray) (a2 : Int) (r1 : ByteArray) (r2 : ByteArray) (r3 : Bool) (w : World) (hr0_4 : Kd.C (Kd.int .i64) w A0_4 l0_4.length l0_4) (hc0_4 : l0_4.length ≤ c0_4) (hr0_5 : Kd.C Kd.string w A0_5 l0_5.length l0_5) (hc0_5 : l0_5.length ≤ c0_5) (h : inner_Ends.f a0_0 a0_1 a0_2 a0_3 l0_4 l0_5 a1 a2 = some (r1, r2, r3)) :
  Calls Tryz.prog 20 #[.agg #[.int .i64 a0_0, .int .i64 a0_1, .int .i64 a0_2, .string a0_3, .slice A0_4 l0_4.length c0_4, .slice A0_5 l0_5.length c0_5], .string a1, .int .i64 a2] w fun e w' => e = .returned (.tuple #[.string r1, .string r2, .bool r3]) ∧ Below w.heap.size w w' := by
 unfold inner_Ends.f at h
 refine (callsIn_wide (n := 9)).1 ?_
 refine callsIn_of_wp_marks Tryz.func20 rfl trivial ?_ rfl
 simp only [Tryz.ntmps20, List.size_toArray, List.length_cons, List.length_nil, Nat.reduceAdd, Nat.reduceSub, Array.replicate_succ, Array.replicate_zero, List.push_toArray, List.append_toArray, List.nil_append, List.cons_append]
 gi_wp2_with (refine ⟨trivial, ?_⟩; gi_at_call 54; refine (callsIn_wide.2 (inner_spans.calls _ rfl a1 _)).mono ?_; rintro e w' ⟨rfl, rfl⟩)
 obtain ⟨nv, hnv⟩ : ∃ nv : Array Value, Aside0 (nv = #[.int .i64 a0_0, .int .i64 a0_1, .int .i64 a0_2, .string a0_3, .slice A0_4 l0_4.length c0_4, .slice A0_5 l0_5.length c0_5]) := ⟨_, ⟨rfl⟩⟩
 (try simp only [World.size_alloc])
 obtain ⟨W0, hW0⟩ : ∃ W0, ((((((w.alloc (.cells #[.int .i64 a0_0, .int .i64 a0_1, .int .i64 a0_2, .string a0_3, .slice A0_4 l0_4.length c0_4, .slice A0_5 l0_5.length c0_5] 25)).alloc (.cells #[.int .i64 a2] 3)).alloc (.cells #[.string ⟨#[]⟩] 9)).alloc (.cells #[.string ⟨#[]⟩] 9)).alloc (.cells #[.bool false] 4)).alloc (.cells #[.int .i64 a0_0, .int .i64 a0_1, .int .i64 a0_2, .string a0_3, .slice A0_4 l0_4.length c0_4, .slice A0_5 l0_5.length c0_5] 25)).alloc (.cells #[.string a1] 9) = W0 := ⟨_, rfl⟩
 rw [hW0]
 obtain ⟨hz, b1, b2, b3, b4, b5, b6, bel0⟩ := new7 _ _ _ _ _ _ _ _ hW0
 clear hW0
 refine rangeFunc_walk (gf := 86) (lb := #[.pointer (some ⟨w.heap.size + 5, 0, none⟩), .pointer (some ⟨w.heap.size + 6, 0, none⟩)]) rfl (by decide) rfl trivial (enters_of Tryz.func86 (by kernel_rfl) rfl) ?_
 intro rec hY
 rw [hz] at hY ⊢
 have hG0 : EndsAt w rec nv a2 ⟨#[]⟩ ⟨#[]⟩ false a1 (rec .ready none) ((W0.alloc (.deferred (some []))).alloc (.loop (rec .ready none))) := by
  have n1 := blk_new W0 (.deferred (some []))
  have n2 := blk_new (W0.alloc (.deferred (some []))) (.loop (rec .ready none))
  rw [World.size_alloc, hz] at n2
  rw [hz] at n1
  rw [hnv.out]
  exact ⟨blk_alloc (blk_alloc b5 _) _, blk_alloc (blk_alloc b1 _) _, blk_alloc (blk_alloc b2 _) _, blk_alloc (blk_alloc b3 _) _, blk_alloc (blk_alloc b4 _) _, blk_alloc (blk_alloc b6 _) _, blk_alloc n1 _, n2, below_alloc (below_alloc bel0 _) _⟩
 clear b1 b2 b3 b4 b5 b6 bel0
 generalize (W0.alloc (.deferred (some []))).alloc (.loop (rec .ready none)) = W1 at hG0 ⊢
 have hYield : ∀ (wr : World) (lo x y : ByteArray) (b : Bool) (n : Int), EndsAt w rec nv a2 ⟨#[]⟩ ⟨#[]⟩ false lo (rec .ready none) wr → n ≠ a2 →
   YieldAt Fence.wide 7 Tryz.prog (w.heap.size + 8) #[.int .i64 n, .agg #[.string x, .string y, .bool b]] wr fun e W' => e = .returned (.bool true) ∧ EndsAt w rec nv a2 ⟨#[]⟩ ⟨#[]⟩ false lo (rec .ready none) W' := by
  intro wr lo x y b n hG hne
  refine hY wr _ _ rfl hG.lp ?_
  simp only [List.zip_toArray, List.zip_cons_cons, List.zip_nil_right, List.zip_nil_left, List.foldl_toArray', List.foldl_cons, List.foldl_nil, List.setIfInBounds_toArray, List.set_cons_zero, List.set_cons_succ, List.size_toArray, List.length_cons, List.length_nil, Nat.reduceAdd]
  gi_wp2
  refine ⟨blk_alloc hG.lp _, ?_⟩
  obtain ⟨W2, hW2⟩ : ∃ W2, (wr.alloc (.cells #[.string x, .string y, .bool b] 90)).putObj (w.heap.size + 7 + 1) (.loop (rec .busy none)) = W2 := ⟨_, rfl⟩
  have hlt := blk_lt hG.lp
  have o2 : ∀ k, k < wr.heap.size → k ≠ w.heap.size + 8 → W2.heap[k]? = wr.heap[k]? := fun k h1 h2 => by
   rw [← hW2, World.putObj_heap_other (by omega)]
   exact Below.heap_alloc wr _ k h1
  have l2 : W2.heap[w.heap.size + 8]? = some (.loop (rec .busy none)) := by
   rw [← hW2]
   exact World.putObj_heap_same (by rw [World.size_alloc]; omega)
  have bel2 : Below w.heap.size w W2 := by
   rw [← hW2]
   exact ends_putObj _ (below_alloc hG.below _) (by omega)
  have hG2 := hG.but (fun k h1 h2 => o2 k (by omega) (by omega)) l2 bel2
  rw [hW2]
  clear hW2 hG o2 hlt
  have hi := blk_cell hG2.ib 0
  have hne' : (n == a2) = false := beq_eq_false_iff_ne.mpr hne
  gi_wp2
  exact ⟨hG2.lp, rfl, hG2.but (fun k h1 h2 => World.putObj_heap_other (by omega)) (World.putObj_heap_same (blk_lt l2)) (ends_putObj _ bel2 (by omega))⟩
 have hLast : ∀ (wr : World) (lo x y : ByteArray) (b : Bool), EndsAt w rec nv a2 ⟨#[]⟩ ⟨#[]⟩ false lo (rec .ready none) wr →
   YieldAt Fence.wide 7 Tryz.prog (w.heap.size + 8) #[.int .i64 a2, .agg #[.string x, .string y, .bool b]] wr fun e W' => e = .returned (.bool false) ∧ EndsAt w rec nv a2 x y b lo (rec .done (some .ret)) W' := by
  intro wr lo x y b hG
  refine hY wr _ _ rfl hG.lp ?_
  simp only [List.zip_toArray, List.zip_cons_cons, List.zip_nil_right, List.zip_nil_left, List.foldl_toArray', List.foldl_cons, List.foldl_nil, List.setIfInBounds_toArray, List.set_cons_zero, List.set_cons_succ, List.size_toArray, List.length_cons, List.length_nil, Nat.reduceAdd]
  gi_wp2
  refine ⟨blk_alloc hG.lp _, ?_⟩
  obtain ⟨W2, hW2⟩ : ∃ W2, (wr.alloc (.cells #[.string x, .string y, .bool b] 90)).putObj (w.heap.size + 7 + 1) (.loop (rec .busy none)) = W2 := ⟨_, rfl⟩
  have hlt := blk_lt hG.lp
  have o2 : ∀ k, k < wr.heap.size → k ≠ w.heap.size + 8 → W2.heap[k]? = wr.heap[k]? := fun k h1 h2 => by
   rw [← hW2, World.putObj_heap_other (by omega)]
   exact Below.heap_alloc wr _ k h1
  have l2 : W2.heap[w.heap.size + 8]? = some (.loop (rec .busy none)) := by
   rw [← hW2]
   exact World.putObj_heap_same (by rw [World.size_alloc]; omega)
  have bel2 : Below w.heap.size w W2 := by
   rw [← hW2]
   exact ends_putObj _ (below_alloc hG.below _) (by omega)
  have xb : W2.heap[wr.heap.size]? = some (.cells #[.string x, .string y, .bool b] 90 (0, 0)) := by
   rw [← hW2, World.putObj_heap_other (by omega)]
   exact blk_new wr _
  have hG2 := hG.but (fun k h1 h2 => o2 k (by omega) (by omega)) l2 bel2
  rw [hW2]
  have hgx : w.heap.size + 9 ≤ wr.heap.size := by omega
  clear hW2 hG o2 hlt hYield
  generalize wr.heap.size = gx at xb hgx ⊢
  have hi := blk_cell hG2.ib 0
  obtain ⟨g2, hg2⟩ : ∃ g2, g2 = w.heap.size + 1 + 1 := ⟨_, rfl⟩
  obtain ⟨g3, hg3⟩ : ∃ g3, g3 = w.heap.size + 1 + 1 + 1 := ⟨_, rfl⟩
  obtain ⟨g4, hg4⟩ : ∃ g4, g4 = w.heap.size + 1 + 1 + 1 + 1 := ⟨_, rfl⟩
  rw [← hg4, ← hg3, ← hg2]
  have c1 : W2.cell? ⟨g2, 0, none⟩ = some (.string ⟨#[]⟩) := by rw [hg2]; exact blk_cell hG2.r1 0
  have c2 : W2.cell? ⟨g3, 0, none⟩ = some (.string ⟨#[]⟩) := by rw [hg3]; exact blk_cell hG2.r2 0
  have c3 : W2.cell? ⟨g4, 0, none⟩ = some (.bool false) := by rw [hg4]; exact blk_cell hG2.r3 0
  have f1 : W2.frozen? ⟨g2, 0, none⟩ = false := by rw [hg2]; exact blk_frozen hG2.r1 0
  have f2 : W2.frozen? ⟨g3, 0, none⟩ = false := by rw [hg3]; exact blk_frozen hG2.r2 0
  have f3 : W2.frozen? ⟨g4, 0, none⟩ = false := by rw [hg4]; exact blk_frozen hG2.r3 0
  have x1 : W2.cell? ⟨gx, 0, none⟩ = some (.string x) := blk_cell xb 0
  have x2 : W2.cell? ⟨gx, 1, none⟩ = some (.string y) := blk_cell xb 1
  have x3 : W2.cell? ⟨gx, 2, none⟩ = some (.bool b) := blk_cell xb 2
  have n1 : gx ≠ g2 := by omega
  have n2 : gx ≠ g3 := by omega
  have n3 : gx ≠ g4 := by omega
  have n4 : g2 ≠ g3 := by omega
  have n5 : g2 ≠ g4 := by omega
  have n6 : g3 ≠ g4 := by omega
  have hne' : (a2 == a2) = true := beq_self_eq_true a2
  have HS := as_ (⟨hg2, hg3, hg4, hgx⟩ : g2 = w.heap.size + 1 + 1 ∧ g3 = w.heap.size + 1 + 1 + 1 ∧ g4 = w.heap.size + 1 + 1 + 1 + 1 ∧ w.heap.size + 9 ≤ gx)
  clear hg2 hg3 hg4 hgx
  gi_wp2
  generalize Value.agg #[.int .i64 a0_0, .int .i64 a0_1, .int .i64 a0_2, .string a0_3, .slice A0_4 l0_4.length c0_4, .slice A0_5 l0_5.length c0_5] = av
  generalize Value.func (.func 86) _ _ = fv
  generalize Value.agg #[.string x, .string y, .bool b] = sv
  clear hi hne'
  refine wpIn_mono (Q := fun e a W' => e = .normal ∧ W' = (((W2.setCell ⟨g2, 0, none⟩ (.string x)).setCell ⟨g3, 0, none⟩ (.string y)).setCell ⟨g4, 0, none⟩ (.bool b)).drew) ?_ ?_
  ·clear hG2 l2 bel2 xb hY hG0 hr0_4 hc0_4 hr0_5 hc0_5 h hz HS
   generalize a1 = va
   generalize w.heap.size = gw
   gi_region
   all_goals exact ⟨rfl, rfl⟩
  ·rintro e a W' ⟨rfl, rfl⟩
   gi_wp2
   have e1 : W2.heap[g2]? = some (.cells #[.string ⟨#[]⟩] 9 (0, 0)) := by rw [HS.out.1]; exact hG2.r1
   have e2 : W2.heap[g3]? = some (.cells #[.string ⟨#[]⟩] 9 (0, 0)) := by rw [HS.out.2.1]; exact hG2.r2
   have e3 : W2.heap[g4]? = some (.cells #[.bool false] 4 (0, 0)) := by rw [HS.out.2.2.1]; exact hG2.r3
   have hs := HS.out
   obtain ⟨W3, hW3⟩ : ∃ W3, (((W2.setCell ⟨g2, 0, none⟩ (.string x)).setCell ⟨g3, 0, none⟩ (.string y)).setCell ⟨g4, 0, none⟩ (.bool b)).drew = W3 := ⟨_, rfl⟩
   have o3 : ∀ k, k ≠ g2 → k ≠ g3 → k ≠ g4 → W3.heap[k]? = W2.heap[k]? := fun k h1 h2 h3 => by
    rw [← hW3]
    exact (Below.heap_setCell _ _ _ k h3).trans ((Below.heap_setCell _ _ _ k h2).trans (Below.heap_setCell _ _ _ k h1))
   have q1 : W3.heap[g2]? = some (.cells #[.string x] 9 (0, 0)) := by
    rw [← hW3]
    exact (Below.heap_setCell _ _ _ _ n5).trans ((Below.heap_setCell _ _ _ _ n4).trans (Boxed.set (t := 9) _ e1))
   have q2 : W3.heap[g3]? = some (.cells #[.string y] 9 (0, 0)) := by
    rw [← hW3]
    exact (Below.heap_setCell _ _ _ _ n6).trans (Boxed.set (t := 9) _ ((Below.heap_setCell _ _ _ _ n4.symm).trans e2))
   have q3 : W3.heap[g4]? = some (.cells #[.bool b] 4 (0, 0)) := by
    rw [← hW3]
    exact Boxed.set (t := 4) _ ((Below.heap_setCell _ _ _ _ n6.symm).trans ((Below.heap_setCell _ _ _ _ n5.symm).trans e3))
   have bel3 : Below w.heap.size w W3 := by
    rw [← hW3]
    exact below_drew1 (((bel2.setCell (by show _ ≤ g2; omega) _).setCell (by show _ ≤ g3; omega) _).setCell (by show _ ≤ g4; omega) _)
   rw [hW3]
   have l3 := (o3 (w.heap.size + 8) (by omega) (by omega) (by omega)).trans l2
   have p4 : ∀ k, k ≠ w.heap.size + 8 → (W3.putObj (w.heap.size + 7 + 1) (.loop (rec .done (some .ret)))).heap[k]? = W3.heap[k]? := fun k hk => World.putObj_heap_other (by omega)
   have s2 : g2 = w.heap.size + 2 := by omega
   have s3 : g3 = w.heap.size + 3 := by omega
   have s4 : g4 = w.heap.size + 4 := by omega
   rw [s2] at q1
   rw [s3] at q2
   rw [s4] at q3
   exact ⟨l3, rfl, (p4 _ (by omega)).trans ((o3 _ (by omega) (by omega) (by omega)).trans hG2.nb), (p4 _ (by omega)).trans ((o3 _ (by omega) (by omega) (by omega)).trans hG2.ib), (p4 _ (by omega)).trans q1, (p4 _ (by omega)).trans q2, (p4 _ (by omega)).trans q3, (p4 _ (by omega)).trans ((o3 _ (by omega) (by omega) (by omega)).trans hG2.lb), (p4 _ (by omega)).trans ((o3 _ (by omega) (by omega) (by omega)).trans hG2.dd), World.putObj_heap_same (blk_lt l3), ends_putObj _ bel3 (by omega)⟩
 -- WALK
 have hs5 : ∀ {wr : World} {x y lo : ByteArray} {b : Bool} {st : Loop}, EndsAt w rec nv a2 x y b lo st wr → wr.cell? ⟨w.heap.size + 5, 5, none⟩ = some (.slice A0_5 l0_5.length c0_5) ∧ wr.cell? ⟨w.heap.size + 5, 3, none⟩ = some (.string a0_3) ∧ wr.cell? ⟨w.heap.size + 5, 2, none⟩ = some (.int .i64 a0_2) := fun hG => by
  have h5 := blk_cell hG.nb 5
  have h3 := blk_cell hG.nb 3
  have h2 := blk_cell hG.nb 2
  rw [hnv.out] at h5 h3 h2
  exact ⟨h5, h3, h2⟩
 refine callsIn_of_wp Tryz.func86 rfl trivial ?_ rfl
 simp only [Tryz.ntmps86, List.size_toArray, List.length_cons, List.length_nil, Nat.reduceAdd, Nat.reduceSub, Array.replicate_succ, Array.replicate_zero, List.push_toArray, List.append_toArray, List.nil_append, List.cons_append]
 have hs0 := (hs5 hG0).1
 gi_wp2
 clear hs0
 gi_loopw [9] (fun v wr => ∃ (j : Nat), v = .int .i64 (j : Int) ∧ j ≤ l0_5.length ∧ (∀ i : Nat, i < j → (i : Int) ≠ a2) ∧ EndsAt w rec nv a2 ⟨#[]⟩ ⟨#[]⟩ false (rdOf ByteArray.empty (a1 :: l0_5) (j : Int)) (rec .ready none) wr) (fun v _ => l0_5.length + 1 - ends_int v)
 case atStart => exact ⟨0, rfl, Nat.zero_le _, fun i hi => absurd hi (Nat.not_lt_zero i), hG0⟩
 case round =>
  clear hG0
  obtain ⟨j, rfl, hj, hno, hG⟩ := hrel
  have hlen : l0_5.length ≤ 9223372036854775806 := by
   by_cases q : l0_5.length ≤ 9223372036854775806
   rotate_left
   ·rw [if_neg q] at h; cases h
   exact q
  rw [if_pos hlen] at h
  have hlow := blk_cell hG.lb 0
  have hfl := blk_frozen hG.lb 0
  by_cases c : j < l0_5.length
  ·have c0 : decide ((j : Int) < (l0_5.length : Int)) = true := decide_eq_true (by omega)
   have c1 : decide (j < l0_5.length) = true := decide_eq_true c
   have p : 0 ≤ (j : Int) := by omega
   have q : (j : Int) < (l0_5.length : Int) := by omega
   obtain ⟨ad, e', hx⟩ := Kd.at_string hr0_5 (j : Int) p q
   cases e'
   rw [Int.toNat_natCast] at hx
   replace hx := (hG.below.cell (World.block_lt_of_cell? w _ hx)).trans hx
   replace p := eq_true p
   replace q := eq_true q
   by_cases hja : (j : Int) = a2
   rotate_left
   ·have hja' : ((j : Int) == a2) = false := beq_eq_false_iff_ne.mpr hja
    have cs := as_ (ends_cons a1 l0_5 j)
    obtain ⟨fn_, tm_, as_, bd_, hy, hR⟩ := hYield wr (rdOf ByteArray.empty (a1 :: l0_5) (j : Int)) (rdOf ByteArray.empty (a1 :: l0_5) (j : Int)) (rdOf ByteArray.empty l0_5 (j : Int)) true (j : Int) hG hja
    clear hja'
    generalize rdOf ByteArray.empty (a1 :: l0_5) (j : Int) = lo at hy hR hlow hfl hG ⊢
    generalize hhi : rdOf ByteArray.empty l0_5 (j : Int) = hi at hy hR hx ⊢
    gi_wp2
    refine hR.mono ?_
    rintro e W3 ⟨rfl, hG3⟩
    have hlow3 := blk_cell hG3.lb 0
    have hfl3 := blk_frozen hG3.lb 0
    clear hy hR hlow hfl hG hx
    gi_wp2
    refine ⟨⟨j + 1, rfl, c, fun i hi' => ?_, ?_⟩, ?_⟩
    ·by_cases e : i = j
     ·subst e; exact hja
     ·exact hno i (by omega)
    ·rw [cs.out, hhi]
     exact ⟨(Below.heap_setCell _ _ _ _ (by simp)).trans hG3.nb, (Below.heap_setCell _ _ _ _ (by simp)).trans hG3.ib, (Below.heap_setCell _ _ _ _ (by simp)).trans hG3.r1, (Below.heap_setCell _ _ _ _ (by simp)).trans hG3.r2, (Below.heap_setCell _ _ _ _ (by simp)).trans hG3.r3, Boxed.set (t := 9) _ hG3.lb, (Below.heap_setCell _ _ _ _ (by simp)).trans hG3.dd, (Below.heap_setCell _ _ _ _ (by simp)).trans hG3.lp, hG3.below.setCell (by simp) _⟩
    ·show l0_5.length + 1 - ((j : Int) + 1).toNat < l0_5.length + 1 - (j : Int).toNat
     omega
   subst hja
   obtain ⟨fn_, tm_, as_, bd_, hy, hR⟩ := hLast wr (rdOf ByteArray.empty (a1 :: l0_5) (j : Int)) (rdOf ByteArray.empty (a1 :: l0_5) (j : Int)) (rdOf ByteArray.empty l0_5 (j : Int)) true hG
   rw [if_pos ⟨of_eq_true p, of_eq_true q⟩] at h
   simp only [Option.some.injEq, Prod.mk.injEq] at h
   have HR := Aside0.mk h
   clear h hLast hYield hY hz hs5 hno
   generalize rdOf ByteArray.empty (a1 :: l0_5) (j : Int) = lo at *
   generalize rdOf ByteArray.empty l0_5 (j : Int) = hi at *
   gi_wp2
   refine hR.mono ?_
   rintro e W3 ⟨rfl, hG3⟩
   clear hy hR hlow hfl hG hx
   gi_wp2
   refine bodyPost_ret (results_none rfl _ _ _) rfl ?_
   refine ⟨⟨_, rfl⟩, .inr ⟨.ret, hG3.lp, ?_⟩⟩
   have p4 : ∀ k, k ≠ w.heap.size + 8 → (W3.putObj (w.heap.size + 7 + 1) (.loop (rec .exhausted (some .ret)))).heap[k]? = W3.heap[k]? := fun k hk => World.putObj_heap_other (by omega)
   have dd4 := (p4 _ (by omega)).trans hG3.dd
   have q1 := (p4 _ (by omega)).trans hG3.r1
   have q2 := (p4 _ (by omega)).trans hG3.r2
   have q3 := (p4 _ (by omega)).trans hG3.r3
   have bel4 := ends_putObj (l := w.heap.size + 7 + 1) (.loop (rec .exhausted (some .ret))) hG3.below (by omega)
   generalize W3.putObj (w.heap.size + 7 + 1) (.loop (rec .exhausted (some .ret))) = W4 at dd4 q1 q2 q3 bel4 ⊢
   clear hG3 p4
   gi_wp2
   refine ⟨by simp, .inl ⟨_, _, rfl, run_takeDeferred dd4, ?_⟩⟩
   have p5 : ∀ k, k ≠ w.heap.size + 7 → (W4.putObj (w.heap.size + 7) (.deferred none)).heap[k]? = W4.heap[k]? := fun k hk => World.putObj_heap_other (by omega)
   have z1 : (W4.putObj (w.heap.size + 7) (.deferred none)).cell? ⟨w.heap.size + 2, 0, none⟩ = some (.string lo) := blk_cell ((p5 _ (by omega)).trans q1) 0
   have z2 : (W4.putObj (w.heap.size + 7) (.deferred none)).cell? ⟨w.heap.size + 3, 0, none⟩ = some (.string hi) := blk_cell ((p5 _ (by omega)).trans q2) 0
   have z3 : (W4.putObj (w.heap.size + 7) (.deferred none)).cell? ⟨w.heap.size + 4, 0, none⟩ = some (.bool true) := blk_cell ((p5 _ (by omega)).trans q3) 0
   have bel5 := ends_putObj (l := w.heap.size + 7) (.deferred none) bel4 (by omega)
   exact ⟨_, ends_results rfl _ _ rfl rfl rfl z1 z2 z3, by obtain ⟨h1, h2, h3⟩ := HR.out; rw [← h1, ← h2, ← h3], bel5⟩
  obtain rfl : j = l0_5.length := by omega
  have c0 : decide ((l0_5.length : Int) < (l0_5.length : Int)) = false := decide_eq_false (by omega)
  have c1 : decide (l0_5.length < l0_5.length) = false := decide_eq_false (by omega)
  have hout : ¬ (0 ≤ a2 ∧ a2 < (l0_5.length : Int)) := fun hh => hno a2.toNat (by omega) (by omega)
  rw [if_neg hout] at h
  obtain ⟨hn5, hn3, hn2⟩ := hs5 hG
  by_cases hja : a2 = (l0_5.length : Int)
  ·rw [if_pos hja] at h
   simp only [Option.some.injEq, Prod.mk.injEq] at h
   have HR := Aside0.mk h
   clear h
   subst hja
   obtain ⟨fn_, tm_, as_, bd_, hy, hR⟩ := hLast wr (rdOf ByteArray.empty (a1 :: l0_5) (l0_5.length : Int)) (rdOf ByteArray.empty (a1 :: l0_5) (l0_5.length : Int)) a0_3 (a0_2 != 0) hG
   clear hLast hYield hY hz hs5 hno hout c
   generalize rdOf ByteArray.empty (a1 :: l0_5) (l0_5.length : Int) = lo at *
   gi_wp2
   refine hR.mono ?_
   rintro e W3 ⟨rfl, hG3⟩
   clear hy hR hlow hfl hG hn5 hn3 hn2
   gi_wp2
   refine bodyPost_end (results_none rfl _ _ _) rfl ?_
   refine ⟨⟨_, rfl⟩, .inr ⟨.ret, hG3.lp, ?_⟩⟩
   have p4 : ∀ k, k ≠ w.heap.size + 8 → (W3.putObj (w.heap.size + 7 + 1) (.loop (rec .exhausted (some .ret)))).heap[k]? = W3.heap[k]? := fun k hk => World.putObj_heap_other (by omega)
   have dd4 := (p4 _ (by omega)).trans hG3.dd
   have q1 := (p4 _ (by omega)).trans hG3.r1
   have q2 := (p4 _ (by omega)).trans hG3.r2
   have q3 := (p4 _ (by omega)).trans hG3.r3
   have bel4 := ends_putObj (l := w.heap.size + 7 + 1) (.loop (rec .exhausted (some .ret))) hG3.below (by omega)
   generalize W3.putObj (w.heap.size + 7 + 1) (.loop (rec .exhausted (some .ret))) = W4 at dd4 q1 q2 q3 bel4 ⊢
   clear hG3 p4
   gi_wp2
   refine ⟨by simp, .inl ⟨_, _, rfl, run_takeDeferred dd4, ?_⟩⟩
   have p5 : ∀ k, k ≠ w.heap.size + 7 → (W4.putObj (w.heap.size + 7) (.deferred none)).heap[k]? = W4.heap[k]? := fun k hk => World.putObj_heap_other (by omega)
   have z1 : (W4.putObj (w.heap.size + 7) (.deferred none)).cell? ⟨w.heap.size + 2, 0, none⟩ = some (.string lo) := blk_cell ((p5 _ (by omega)).trans q1) 0
   have z2 : (W4.putObj (w.heap.size + 7) (.deferred none)).cell? ⟨w.heap.size + 3, 0, none⟩ = some (.string a0_3) := blk_cell ((p5 _ (by omega)).trans q2) 0
   have z3 : (W4.putObj (w.heap.size + 7) (.deferred none)).cell? ⟨w.heap.size + 4, 0, none⟩ = some (.bool (a0_2 != 0)) := blk_cell ((p5 _ (by omega)).trans q3) 0
   have bel5 := ends_putObj (l := w.heap.size + 7) (.deferred none) bel4 (by omega)
   exact ⟨_, ends_results rfl _ _ rfl rfl rfl z1 z2 z3, by obtain ⟨h1, h2, h3⟩ := HR.out; rw [← h1, ← h2, ← h3], bel5⟩
  rw [if_neg hja] at h
  simp only [Option.some.injEq, Prod.mk.injEq] at h
  obtain ⟨rfl, rfl, rfl⟩ := h
  obtain ⟨fn_, tm_, as_, bd_, hy, hR⟩ := hYield wr (rdOf ByteArray.empty (a1 :: l0_5) (l0_5.length : Int)) (rdOf ByteArray.empty (a1 :: l0_5) (l0_5.length : Int)) a0_3 (a0_2 != 0) (l0_5.length : Int) hG (fun e => hja e.symm)
  clear hLast hYield hY hz hs5 hno hout c hja
  generalize rdOf ByteArray.empty (a1 :: l0_5) (l0_5.length : Int) = lo at *
  gi_wp2
  refine hR.mono ?_
  rintro e W3 ⟨rfl, hG3⟩
  clear hy hR hlow hfl hG hn5 hn3 hn2
  gi_wp2
  refine bodyPost_end (results_none rfl _ _ _) rfl ?_
  refine ⟨⟨_, rfl⟩, .inl ⟨hG3.lp, ?_⟩⟩
  have p4 : ∀ k, k ≠ w.heap.size + 8 → (W3.putObj (w.heap.size + 7 + 1) (.loop (rec .exhausted none))).heap[k]? = W3.heap[k]? := fun k hk => World.putObj_heap_other (by omega)
  have dd4 := (p4 _ (by omega)).trans hG3.dd
  have q1 := (p4 _ (by omega)).trans hG3.r1
  have q2 := (p4 _ (by omega)).trans hG3.r2
  have q3 := (p4 _ (by omega)).trans hG3.r3
  have bel4 := ends_putObj (l := w.heap.size + 7 + 1) (.loop (rec .exhausted none)) hG3.below (by omega)
  generalize W3.putObj (w.heap.size + 7 + 1) (.loop (rec .exhausted none)) = W4 at dd4 q1 q2 q3 bel4 ⊢
  clear hG3 p4
  have z1 : W4.cell? ⟨w.heap.size + 1 + 1, 0, none⟩ = some (.string ⟨#[]⟩) := blk_cell q1 0
  have z2 : W4.cell? ⟨w.heap.size + 1 + 1 + 1, 0, none⟩ = some (.string ⟨#[]⟩) := blk_cell q2 0
  have z3 : W4.cell? ⟨w.heap.size + 1 + 1 + 1 + 1, 0, none⟩ = some (.bool false) := blk_cell q3 0
  have y1 : W4.frozen? ⟨w.heap.size + 1 + 1, 0, none⟩ = false := blk_frozen q1 0
  have y2 : W4.frozen? ⟨w.heap.size + 1 + 1 + 1, 0, none⟩ = false := blk_frozen q2 0
  have y3 : W4.frozen? ⟨w.heap.size + 1 + 1 + 1 + 1, 0, none⟩ = false := blk_frozen q3 0
  gi_wp2
  obtain ⟨W5, hW5⟩ : ∃ W5, ((W4.setCell ⟨w.heap.size + 1 + 1, 0, none⟩ (.string ⟨#[]⟩)).setCell ⟨w.heap.size + 1 + 1 + 1, 0, none⟩ (.string ⟨#[]⟩)).setCell ⟨w.heap.size + 1 + 1 + 1 + 1, 0, none⟩ (.bool false) = W5 := ⟨_, rfl⟩
  have t1 : W5.heap[w.heap.size + 2]? = some (.cells #[.string ⟨#[]⟩] 9 (0, 0)) := by
   rw [← hW5]
   exact (Below.heap_setCell _ _ _ _ (by simp only []; omega)).trans ((Below.heap_setCell _ _ _ _ (by simp only []; omega)).trans (Boxed.set (t := 9) _ q1))
  have t2 : W5.heap[w.heap.size + 3]? = some (.cells #[.string ⟨#[]⟩] 9 (0, 0)) := by
   rw [← hW5]
   exact (Below.heap_setCell _ _ _ _ (by simp only []; omega)).trans (Boxed.set (t := 9) _ ((Below.heap_setCell _ _ _ _ (by simp only []; omega)).trans q2))
  have t3 : W5.heap[w.heap.size + 4]? = some (.cells #[.bool false] 4 (0, 0)) := by
   rw [← hW5]
   exact Boxed.set (t := 4) _ ((Below.heap_setCell _ _ _ _ (by simp only []; omega)).trans ((Below.heap_setCell _ _ _ _ (by simp only []; omega)).trans q3))
  have dd5 : W5.heap[w.heap.size + 7]? = some (.deferred (some [])) := by
   rw [← hW5]
   exact (Below.heap_setCell _ _ _ _ (by simp only []; omega)).trans ((Below.heap_setCell _ _ _ _ (by simp only []; omega)).trans ((Below.heap_setCell _ _ _ _ (by simp only []; omega)).trans dd4))
  have bel5 : Below w.heap.size w W5 := by
   rw [← hW5]
   exact ((bel4.setCell (by simp only []; omega) _).setCell (by simp only []; omega) _).setCell (by simp only []; omega) _
  rw [hW5]
  clear hW5 z1 z2 z3 y1 y2 y3 q1 q2 q3 dd4 bel4
  refine ⟨by simp, .inl ⟨_, _, rfl, run_takeDeferred dd5, ?_⟩⟩
  have p5 : ∀ k, k ≠ w.heap.size + 7 → (W5.putObj (w.heap.size + 7) (.deferred none)).heap[k]? = W5.heap[k]? := fun k hk => World.putObj_heap_other (by omega)
  have z1 : (W5.putObj (w.heap.size + 7) (.deferred none)).cell? ⟨w.heap.size + 2, 0, none⟩ = some (.string ⟨#[]⟩) := blk_cell ((p5 _ (by omega)).trans t1) 0
  have z2 : (W5.putObj (w.heap.size + 7) (.deferred none)).cell? ⟨w.heap.size + 3, 0, none⟩ = some (.string ⟨#[]⟩) := blk_cell ((p5 _ (by omega)).trans t2) 0
  have z3 : (W5.putObj (w.heap.size + 7) (.deferred none)).cell? ⟨w.heap.size + 4, 0, none⟩ = some (.bool false) := blk_cell ((p5 _ (by omega)).trans t3) 0
  have bel6 := ends_putObj (l := w.heap.size + 7) (.deferred none) bel5 (by omega)
  exact ⟨_, ends_results rfl _ _ rfl rfl rfl z1 z2 z3, rfl, bel6⟩
end


/-! ### inner_Size: function 22 -/
def inner_Size.f (k : Nat) (a0_0 : Int) (a0_1 : Int) (a0_2 : Int) (a0_3 : ByteArray) (l0_4 : List Int) (l0_5 : List ByteArray) : Option (Int) := (inner_parts.f k a0_0 a0_1 a0_2 a0_3 l0_4 l0_5).bind fun bt317 => ((slot_Size.f bt317.1 bt317.2).bind fun t321 => (some t321))
theorem inner_Size.mono : ∀ a0 a1 a2 a3 a4 a5 k, LeO (inner_Size.f k a0 a1 a2 a3 a4 a5) (inner_Size.f (k + 1) a0 a1 a2 a3 a4 a5) := by
 intro a0 a1 a2 a3 a4 a5 k
 unfold inner_Size.f
 repeat' first
   | (with_reducible exact inner_parts.mono _ _ _ _ _ _ _)
   | (with_reducible exact LeO.refl _)
   | (with_reducible exact LeO.none _)
   | (with_reducible refine LeO.ite ?_ ?_)
   | (with_reducible refine LeO.bind ?_ (fun _ => ?_))
   | exact inner_parts.mono _ _ _ _ _ _ _
   | exact LeO.none _
   | refine LeO.ite ?_ ?_
   | refine LeO.bind ?_ (fun _ => ?_)
set_option maxHeartbeats 8000000 in
set_option maxRecDepth 100000 in
theorem inner_Size.calls (k : Nat) (a0_0 : Int) (a0_1 : Int) (a0_2 : Int) (a0_3 : ByteArray) (A0_4 : Option Addr) (c0_4 : Nat) (l0_4 : List Int) (A0_5 : Option Addr) (c0_5 : Nat) (l0_5 : List ByteArray) (r : Int) (w : World) (hr0_4 : Kd.C (Kd.int .i64) w A0_4 l0_4.length l0_4) (hc0_4 : l0_4.length ≤ c0_4) (hr0_5 : Kd.C Kd.string w A0_5 l0_5.length l0_5) (hc0_5 : l0_5.length ≤ c0_5) (h : inner_Size.f k a0_0 a0_1 a0_2 a0_3 l0_4 l0_5 = some r) :
  Calls Tryz.prog 22 #[.agg #[.int .i64 a0_0, .int .i64 a0_1, .int .i64 a0_2, .string a0_3, .slice A0_4 l0_4.length c0_4, .slice A0_5 l0_5.length c0_5]] w fun e w' => e = .returned (.int .i64 r) ∧ Below w.heap.size w w' := by
 have hu25 := Tryz.underlying25
 have HR0_4 := Aside0.mk hr0_4
 have HC0_4 := Aside0.mk hc0_4
 clear hr0_4 hc0_4
 have HR0_5 := Aside0.mk hr0_5
 have HC0_5 := Aside0.mk hc0_5
 clear hr0_5 hc0_5
 have HB := as_ (Below.refl w.heap.size w)
 have H : ((inner_parts.f k a0_0 a0_1 a0_2 a0_3 l0_4 l0_5).bind fun bt317 => ((slot_Size.f bt317.1 bt317.2).bind fun t321 => (some t321))) = some r := h
 clear h
 obtain ⟨⟨t317, t318⟩, A2, H⟩ := bN H
 (try dsimp only at H)
 obtain ⟨t321, A3, H⟩ := bN H
 (try dsimp only at H)
 obtain rfl := Option.some.inj H
 go_enter Tryz.func22, Tryz.ntmps22
 go_wp2_with (first | ((with_reducible refine gate_dst (N := 1) rfl ?_); refine box_event (by rfl) (N := 1) (by rfl) (cs := #[.int .i64 a0_0, .int .i64 a0_1, .int .i64 a0_2, .string a0_3, .slice A0_4 l0_4.length c0_4, .slice A0_5 l0_5.length c0_5]) (t := 25) gS ?_; intro gb316 hg w4 hbox hb; have BK316 := as_ (hbox); have GW316 := gw hg bA; have GE316 := gw hg bA; replace HB := as_ (below_step bA hb); clear hb hbox hg; obtain ⟨hcz5_0, hcz5_1, hcz5_2, hcz5_3, hcz5_4, hcz5_5⟩ := zc6 BK316; obtain ⟨hfz5_0, hfz5_1, hfz5_2, hfz5_3, hfz5_4, hfz5_5⟩ := zf6 BK316) | ((with_reducible refine gate_callee (f := 33) rfl ?_); refine goesL_ (some 7) rfl rfl Tryz.func33 (by kernel_rfl) rfl #[.agg #[.int .i64 a0_0, .int .i64 a0_1, .int .i64 a0_2, .string a0_3, .slice A0_4 l0_4.length c0_4, .slice A0_5 l0_5.length c0_5]] rfl aO ?_; (with_reducible refine (inner_parts.calls k a0_0 a0_1 a0_2 a0_3 _ _ l0_4 _ _ l0_5 t317 t318 _ ?side1 ?side2 ?side3 ?side4 A2.out).mono ?_); (case side1 => repeat (first | exact (Kd.C_below HR0_4.out HB.out) | (with_reducible refine Kd.C_alloc ?_ _) | (with_reducible refine Kd.C_drewN ?_ _) | (with_reducible refine Kd.C_drew ?_))); (case side2 => exact HC0_4.out); (case side3 => repeat (first | exact (Kd.C_below HR0_5.out HB.out) | (with_reducible refine Kd.C_alloc ?_ _) | (with_reducible refine Kd.C_drewN ?_ _) | (with_reducible refine Kd.C_drew ?_))); (case side4 => exact HC0_5.out); rintro e w6 ⟨v319, rfl, ho0, hb⟩; refine ⟨_, rfl, ?_⟩; have HO320 := as_ (Kd.R_lower ho0 (below_size bA)); replace BK316 := bb BK316 hb; replace HB := as_ (below_step bA hb); (try clear hb); (try clear ho0); obtain ⟨Ao7, co7, eo7⟩ := Kd.R_slice HO320.out; subst eo7) | ((with_reducible refine gate_callee (f := 55) rfl ?_); refine goesL_ (some 12) rfl rfl Tryz.func55 (by kernel_rfl) rfl #[.string t317, .slice Ao7 t318.length co7] rfl aO ?_; (with_reducible refine (slot_Size.calls t317 _ _ t318 t321 _ ?side1 ?side2 A3.out).mono ?_); (case side1 => repeat (first | exact (Kd.R_reads' HO320.out).2.2 | (with_reducible refine Kd.C_alloc ?_ _) | (with_reducible refine Kd.C_drewN ?_ _) | (with_reducible refine Kd.C_drew ?_))); (case side2 => exact (Kd.R_reads' HO320.out).2.1); rintro e w8 ⟨rfl, hb⟩; refine ⟨_, rfl, ?_⟩; replace HO320 := as_ (Kd.R_below (rD HO320) hb); replace BK316 := bb BK316 hb; replace HB := as_ (below_step bA hb); (try clear hb); (try clear hi)))
 go_ret
 exact ⟨eW, bA⟩

/-! ### cmp_isNaN_string: function 110 -/
def cmp_isNaN_string.f (a0 : ByteArray) : Option (Bool) := some (a0.toList != a0.toList)
set_option maxHeartbeats 8000000 in
set_option maxRecDepth 100000 in
theorem cmp_isNaN_string.calls (a0 : ByteArray) (r : Bool) (w : World) (h : cmp_isNaN_string.f a0 = some r) :
  Calls Tryz.prog 110 #[.string a0] w fun e w' => e = .returned (.bool r) ∧ Drawn0 w w' := by
 have H : (some (a0.toList != a0.toList)) = some r := h
 clear h
 obtain rfl := Option.some.inj H
 go_enter Tryz.func110, Tryz.ntmps110
 go_wp2
 go_ret
 exact ⟨by first | rfl | (simp; done) | (simp [*]; done), by repeat (first | exact Drawn0.refl _ | apply Drawn0.step)⟩

/-! ### cmp_Less_string: function 88 -/
def cmp_Less_string.f (a0 : ByteArray) (a1 : ByteArray) : Option (Bool) := (cmp_isNaN_string.f a0).bind fun t322 => (if t322 = true then ((cmp_isNaN_string.f a1).bind fun t323 => (if t323 = true then (some (Op.bytesLess a0.toList a1.toList)) else (some true))) else (some (Op.bytesLess a0.toList a1.toList)))
set_option maxHeartbeats 8000000 in
set_option maxRecDepth 100000 in
theorem cmp_Less_string.calls (a0 : ByteArray) (a1 : ByteArray) (r : Bool) (w : World) (h : cmp_Less_string.f a0 a1 = some r) :
  Calls Tryz.prog 88 #[.string a0, .string a1] w fun e w' => e = .returned (.bool r) ∧ Drawn0 w w' := by
 have H : ((cmp_isNaN_string.f a0).bind fun t322 => (if t322 = true then ((cmp_isNaN_string.f a1).bind fun t323 => (if t323 = true then (some (Op.bytesLess a0.toList a1.toList)) else (some true))) else (some (Op.bytesLess a0.toList a1.toList)))) = some r := h
 clear h
 obtain ⟨t322, A3, H⟩ := bN H
 (try dsimp only at H)
 by_cases c4 : t322 = true
 rotate_left
 ·replace c4 := Bool.eq_false_iff.mpr c4
  subst c4
  have H1 : (some (Op.bytesLess a0.toList a1.toList)) = some r := by rw [if_neg (show ¬ (false = true) by decide)] at H; exact H
  clear H
  have H := H1
  clear H1
  obtain rfl := Option.some.inj H
  go_enter Tryz.func88, Tryz.ntmps88
  go_wp2_with (first | ((with_reducible refine gate_callee (f := 110) rfl ?_); refine goesL_ (some 6) rfl rfl Tryz.func110 (by kernel_rfl) rfl #[.string a0] rfl aO ?_; (with_reducible refine (cmp_isNaN_string.calls a0 false _ A3.out).mono ?_); rintro e w' ⟨rfl, ⟨nd, rfl⟩⟩; refine ⟨_, rfl, ?_⟩))
  go_ret
  exact ⟨by first | rfl | (simp; done) | (simp [*]; done), by repeat (first | exact Drawn0.refl _ | apply Drawn0.step)⟩
 
 subst c4
 have H1 : ((cmp_isNaN_string.f a1).bind fun t323 => (if t323 = true then (some (Op.bytesLess a0.toList a1.toList)) else (some true))) = some r := by rw [if_pos rfl] at H; exact H
 clear H
 have H := H1
 clear H1
 obtain ⟨t323, A5, H⟩ := bN H
 (try dsimp only at H)
 by_cases c6 : t323 = true
 ·subst c6
  have H1 : (some (Op.bytesLess a0.toList a1.toList)) = some r := by rw [if_pos rfl] at H; exact H
  clear H
  have H := H1
  clear H1
  obtain rfl := Option.some.inj H
  go_enter Tryz.func88, Tryz.ntmps88
  go_wp2_with (first | ((with_reducible refine gate_callee (f := 110) rfl ?_); refine goesL_ (some 6) rfl rfl Tryz.func110 (by kernel_rfl) rfl #[.string a0] rfl aO ?_; (with_reducible refine (cmp_isNaN_string.calls a0 true _ A3.out).mono ?_); rintro e w' ⟨rfl, ⟨nd, rfl⟩⟩; refine ⟨_, rfl, ?_⟩) | (go_at_call 110; (with_reducible refine (cmp_isNaN_string.calls a1 true _ A5.out).mono ?_); rintro e w' ⟨rfl, ⟨nd, rfl⟩⟩))
  go_ret
  exact ⟨by first | rfl | (simp; done) | (simp [*]; done), by repeat (first | exact Drawn0.refl _ | apply Drawn0.step)⟩
 replace c6 := Bool.eq_false_iff.mpr c6
 subst c6
 have H1 : (some true) = some r := by rw [if_neg (show ¬ (false = true) by decide)] at H; exact H
 clear H
 have H := H1
 clear H1
 obtain rfl := Option.some.inj H
 go_enter Tryz.func88, Tryz.ntmps88
 go_wp2_with (first | ((with_reducible refine gate_callee (f := 110) rfl ?_); refine goesL_ (some 6) rfl rfl Tryz.func110 (by kernel_rfl) rfl #[.string a0] rfl aO ?_; (with_reducible refine (cmp_isNaN_string.calls a0 true _ A3.out).mono ?_); rintro e w' ⟨rfl, ⟨nd, rfl⟩⟩; refine ⟨_, rfl, ?_⟩) | (go_at_call 110; (with_reducible refine (cmp_isNaN_string.calls a1 false _ A5.out).mono ?_); rintro e w' ⟨rfl, ⟨nd, rfl⟩⟩))
 go_ret
 exact ⟨by first | rfl | (simp; done) | (simp [*]; done), by repeat (first | exact Drawn0.refl _ | apply Drawn0.step)⟩
/-! ### slices_isNaN_string: function 89 -/
def slices_isNaN_string.f (a0 : ByteArray) : Option (Bool) := some (a0.toList != a0.toList)
set_option maxHeartbeats 8000000 in
set_option maxRecDepth 100000 in
theorem slices_isNaN_string.calls (a0 : ByteArray) (r : Bool) (w : World) (h : slices_isNaN_string.f a0 = some r) :
  Calls Tryz.prog 89 #[.string a0] w fun e w' => e = .returned (.bool r) ∧ Drawn0 w w' := by
 have H : (some (a0.toList != a0.toList)) = some r := h
 clear h
 obtain rfl := Option.some.inj H
 go_enter Tryz.func89, Tryz.ntmps89
 go_wp2
 go_ret
 exact ⟨by first | rfl | (simp; done) | (simp [*]; done), by repeat (first | exact Drawn0.refl _ | apply Drawn0.step)⟩

/-! ### slices_BinarySearch_string_string: function 57 -/
def slices_BinarySearch_string_string.l0 : Nat → List ByteArray → ByteArray → Int → Int → Int → Option (Int × Bool)
 | 0, _, _, _, _, _ => none
 | k + 1, x0, x1, x6, x7, x8 => if x7 < x8 then (if 0 ≤ (wrap64 ((IntKind.u64.wrap (wrap64 (x7 + x8))) / 2)) then (if (wrap64 ((IntKind.u64.wrap (wrap64 (x7 + x8))) / 2)) < (x0.length : Int) then ((cmp_Less_string.f (rdOf ByteArray.empty x0 (wrap64 ((IntKind.u64.wrap (wrap64 (x7 + x8))) / 2))) x1).bind fun t325 => (if t325 = true then (slices_BinarySearch_string_string.l0 k x0 x1 x6 (wrap64 ((wrap64 ((IntKind.u64.wrap (wrap64 (x7 + x8))) / 2)) + 1)) x8) else (slices_BinarySearch_string_string.l0 k x0 x1 x6 x7 (wrap64 ((IntKind.u64.wrap (wrap64 (x7 + x8))) / 2))))) else (none)) else (none)) else (if x7 < x6 then (if 0 ≤ x7 then (if x7 < (x0.length : Int) then (if (rdOf ByteArray.empty x0 x7).toList = x1.toList then (some (x7, true)) else ((slices_isNaN_string.f (rdOf ByteArray.empty x0 x7)).bind fun t328 => (if t328 = true then ((slices_isNaN_string.f x1).bind fun t329 => (some (x7, t329))) else (some (x7, false))))) else (none)) else (none)) else (some (x7, false)))
def slices_BinarySearch_string_string.f (k : Nat) (l0 : List ByteArray) (a1 : ByteArray) : Option (Int × Bool) := slices_BinarySearch_string_string.l0 k l0 a1 (l0.length : Int) 0 (l0.length : Int)
theorem slices_BinarySearch_string_string.mono_l : ∀ k, (∀ y0 y1 y2 y3 y4, LeO (slices_BinarySearch_string_string.l0 k y0 y1 y2 y3 y4) (slices_BinarySearch_string_string.l0 (k + 1) y0 y1 y2 y3 y4))
 | 0 => fun _ _ _ _ _ r h => by simp [slices_BinarySearch_string_string.l0] at h
 | k + 1 => by
  have ih0 := slices_BinarySearch_string_string.mono_l k
  ·intro y0 y1 y2 y3 y4
   unfold slices_BinarySearch_string_string.l0
   repeat' first
   | (with_reducible exact ih0 _ _ _ _ _)
   | (with_reducible exact LeO.refl _)
   | (with_reducible exact LeO.none _)
   | (with_reducible refine LeO.ite ?_ ?_)
   | (with_reducible refine LeO.bind ?_ (fun _ => ?_))
   | exact ih0 _ _ _ _ _
   | exact LeO.none _
   | refine LeO.ite ?_ ?_
   | refine LeO.bind ?_ (fun _ => ?_)
theorem slices_BinarySearch_string_string.mono : ∀ a0 a1 k, LeO (slices_BinarySearch_string_string.f k a0 a1) (slices_BinarySearch_string_string.f (k + 1) a0 a1) := by
 intro a0 a1 k
 have ih0 := slices_BinarySearch_string_string.mono_l k
 unfold slices_BinarySearch_string_string.f
 repeat' first
   | (with_reducible exact ih0 _ _ _ _ _)
   | (with_reducible exact LeO.refl _)
   | (with_reducible exact LeO.none _)
   | (with_reducible refine LeO.ite ?_ ?_)
   | (with_reducible refine LeO.bind ?_ (fun _ => ?_))
   | exact ih0 _ _ _ _ _
   | exact LeO.none _
   | refine LeO.ite ?_ ?_
   | refine LeO.bind ?_ (fun _ => ?_)
set_option maxHeartbeats 8000000 in
set_option maxRecDepth 100000 in
theorem slices_BinarySearch_string_string.calls (k : Nat) (A0 : Option Addr) (c0 : Nat) (l0 : List ByteArray) (a1 : ByteArray) (r1 : Int) (r2 : Bool) (w : World) (hr0 : Kd.C Kd.string w A0 l0.length l0) (hc0 : l0.length ≤ c0) (h : slices_BinarySearch_string_string.f k l0 a1 = some (r1, r2)) :
  Calls Tryz.prog 57 #[.slice A0 l0.length c0, .string a1] w fun e w' => e = .returned (.tuple #[.int .i64 r1, .bool r2]) ∧ Drawn0 w w' := by
 have HR0 := Aside0.mk hr0
 have HC0 := Aside0.mk hc0
 clear hr0 hc0
 have H : (slices_BinarySearch_string_string.l0 k l0 a1 (l0.length : Int) 0 (l0.length : Int)) = some (r1, r2) := h
 clear h
 have H' := Aside0.mk H
 clear H
 go_enter Tryz.func57, Tryz.ntmps57
 go_wp2
 go_loopg [7, 8] k (fun kq v7 v8 w' => ∃ (x7_1 : Int) (x8_1 : Int), v7 = .int .i64 x7_1 ∧ v8 = .int .i64 x8_1 ∧ Aside0 (slices_BinarySearch_string_string.l0 kq l0 a1 (l0.length : Int) x7_1 x8_1 = some (r1, r2)) ∧ Aside0 (kq ≤ k) ∧ Drawn0 w w')
 case atStart => exact ⟨(0), ((l0.length : Int)), (by first | rfl | (simp; done) | (simp [*]; done)), (by first | rfl | (simp; done) | (simp [*]; done)), H', ⟨Nat.le_refl _⟩, by repeat (first | exact Drawn0.refl _ | apply Drawn0.step)⟩
 case round =>
  clear H'
  try clear p2
  obtain ⟨x7_1, x8_1, rfl, rfl, HA, HK1, ⟨m1, rfl⟩⟩ := hrel
  cases gk with
  | zero => exact absurd HA.out (by simp [slices_BinarySearch_string_string.l0])
  | succ k1 =>
   have H := HA.out
   clear HA
   simp only [slices_BinarySearch_string_string.l0] at H
   by_cases c3 : x7_1 < x8_1
   ·rw [if_pos c3] at H
    have c3b0 := decide_eq_true c3
    clear c3
    obtain ⟨ji4, hji4⟩ : ∃ j_ : Int, (wrap64 ((IntKind.u64.wrap (wrap64 (x7_1 + x8_1))) / 2)) = j_ := ⟨_, rfl⟩
    replace H : (if 0 ≤ (ji4) then (if (ji4) < (l0.length : Int) then ((cmp_Less_string.f (rdOf ByteArray.empty l0 (ji4)) a1).bind fun t325 => (if t325 = true then (slices_BinarySearch_string_string.l0 k1 l0 a1 (l0.length : Int) (wrap64 ((ji4) + 1)) x8_1) else (slices_BinarySearch_string_string.l0 k1 l0 a1 (l0.length : Int) x7_1 ji4))) else (none)) else (none)) = some (r1, r2) := by first | (rw [hji4] at H; exact H) | (simp only [hji4] at H ⊢; exact H)
    have hji4w : (IntKind.i64.wrap ((IntKind.u64.wrap (wrap64 (x7_1 + x8_1))) / 2)) = ji4 := (i64_w _).trans hji4
    obtain ⟨c5, H⟩ := iN (c := 0 ≤ (ji4)) H
    have c5b0 := decide_eq_true c5
    clear c5
    obtain ⟨c6, H⟩ := iN (c := (ji4) < (l0.length : Int)) H
    have c6b0 : decide ((ji4) < (l0.length : Int)) = true := decide_eq_true c6
    clear c6
    obtain ⟨t325, A7, H⟩ := bN H
    (try dsimp only at H)
    by_cases c8 : t325 = true
    ·subst c8
     have H1 : (slices_BinarySearch_string_string.l0 k1 l0 a1 (l0.length : Int) (wrap64 ((ji4) + 1)) x8_1) = some (r1, r2) := by rw [if_pos rfl] at H; exact H
     clear H
     have H := H1
     clear H1
     have H' := Aside0.mk H
     clear H
     have p324 : 0 ≤ ((ji4) : Int) := of_decide_eq_true aM
     have q324 : (ji4) < (l0.length : Int) := of_decide_eq_true aM
     obtain ⟨ad324, e324, hx324_0⟩ := Kd.at_string HR0.out (ji4) p324 q324
     cases e324
     replace p324 := eq_true p324
     replace q324 := eq_true q324
     go_wp2_with (first | ((with_reducible refine gate_callee (f := 88) rfl ?_); refine goesL_ (some 27) rfl rfl Tryz.func88 (by kernel_rfl) rfl #[.string (rdOf ByteArray.empty l0 (ji4)), .string a1] rfl (by (try simp only [List.map_toArray, List.map_cons, List.map_nil]); first | done | (simp only [hji4]; rfl) | rfl | (simp only [List.length_drop, List.length_take]; rfl)) ?_; (with_reducible refine (cmp_Less_string.calls (rdOf ByteArray.empty l0 (ji4)) a1 true _ A7.out).mono ?_); rintro e w' ⟨rfl, ⟨nd, rfl⟩⟩; refine ⟨_, rfl, ?_⟩))
     go_roundg k1
     case measure => have := HK1.out; omega
     case rel => exact ⟨(wrap64 ((ji4) + 1)), (x8_1), (by first | rfl | (simp; done) | (simp only [← hji4] <;> (first | rfl | simp)) | (simp [*]; done)), (by first | rfl | (simp; done) | (simp [*]; done)), H', ⟨by have := HK1.out; omega⟩, by repeat (first | exact Drawn0.refl _ | apply Drawn0.step)⟩
    replace c8 := Bool.eq_false_iff.mpr c8
    subst c8
    have H1 : (slices_BinarySearch_string_string.l0 k1 l0 a1 (l0.length : Int) x7_1 ji4) = some (r1, r2) := by rw [if_neg (show ¬ (false = true) by decide)] at H; exact H
    clear H
    have H := H1
    clear H1
    have H' := Aside0.mk H
    clear H
    have p324 : 0 ≤ ((ji4) : Int) := of_decide_eq_true aM
    have q324 : (ji4) < (l0.length : Int) := of_decide_eq_true aM
    obtain ⟨ad324, e324, hx324_0⟩ := Kd.at_string HR0.out (ji4) p324 q324
    cases e324
    replace p324 := eq_true p324
    replace q324 := eq_true q324
    go_wp2_with (first | ((with_reducible refine gate_callee (f := 88) rfl ?_); refine goesL_ (some 27) rfl rfl Tryz.func88 (by kernel_rfl) rfl #[.string (rdOf ByteArray.empty l0 (ji4)), .string a1] rfl (by (try simp only [List.map_toArray, List.map_cons, List.map_nil]); first | done | (simp only [hji4]; rfl) | rfl | (simp only [List.length_drop, List.length_take]; rfl)) ?_; (with_reducible refine (cmp_Less_string.calls (rdOf ByteArray.empty l0 (ji4)) a1 false _ A7.out).mono ?_); rintro e w' ⟨rfl, ⟨nd, rfl⟩⟩; refine ⟨_, rfl, ?_⟩))
    go_roundg k1
    case measure => have := HK1.out; omega
    case rel => exact ⟨(x7_1), (ji4), (by first | rfl | (simp; done) | (simp [*]; done)), (by first | rfl | (simp; done) | (simp only [← hji4] <;> (first | rfl | simp)) | (simp [*]; done)), H', ⟨by have := HK1.out; omega⟩, by repeat (first | exact Drawn0.refl _ | apply Drawn0.step)⟩
   rw [if_neg c3] at H
   have c3b0 := decide_eq_false c3
   clear c3
   by_cases c9 : x7_1 < (l0.length : Int)
   rotate_left
   ·rw [if_neg c9] at H
    have c9b0 := decide_eq_false c9
    clear c9
    simp only [Option.some.injEq, Prod.mk.injEq] at H
    obtain ⟨rfl, rfl⟩ := H
    go_wp2
    go_ret2
    exact ⟨by first | rfl | (simp; done) | (simp [*]; done), by repeat (first | exact Drawn0.refl _ | apply Drawn0.step)⟩
 
   rw [if_pos c9] at H
   have c9b0 := decide_eq_true c9
   clear c9
   obtain ⟨c10, H⟩ := iN (c := 0 ≤ x7_1) H
   have c10b0 := decide_eq_true c10
   clear c10
   obtain ⟨c11, H⟩ := iN (c := x7_1 < (l0.length : Int)) H
   have c11b0 := decide_eq_true c11
   clear c11
   by_cases c12 : (rdOf ByteArray.empty l0 x7_1).toList = a1.toList
   ·rw [if_pos c12] at H
    have c12b0 := beq_iff_eq.mpr c12
    have c12b1 := bne_eq_false_iff_eq.mpr c12
    clear c12
    simp only [Option.some.injEq, Prod.mk.injEq] at H
    obtain ⟨rfl, rfl⟩ := H
    have p326 : 0 ≤ (x7_1 : Int) := of_decide_eq_true aM
    have q326 : x7_1 < (l0.length : Int) := of_decide_eq_true aM
    obtain ⟨ad326, e326, hx326_0⟩ := Kd.at_string HR0.out x7_1 p326 q326
    cases e326
    replace p326 := eq_true p326
    replace q326 := eq_true q326
    go_wp2
    go_ret2
    exact ⟨by first | rfl | (simp; done) | (simp [*]; done), by repeat (first | exact Drawn0.refl _ | apply Drawn0.step)⟩
   rw [if_neg c12] at H
   have c12b0 := beq_eq_false_iff_ne.mpr c12
   have c12b1 := bne_iff_ne.mpr c12
   obtain ⟨t328, A13, H⟩ := bN H
   (try dsimp only at H)
   by_cases c14 : t328 = true
   rotate_left
   ·replace c14 := Bool.eq_false_iff.mpr c14
    subst c14
    have H1 : (some (x7_1, false)) = some (r1, r2) := by rw [if_neg (show ¬ (false = true) by decide)] at H; exact H
    clear H
    have H := H1
    clear H1
    simp only [Option.some.injEq, Prod.mk.injEq] at H
    obtain ⟨rfl, rfl⟩ := H
    have p326 : 0 ≤ (x7_1 : Int) := of_decide_eq_true aM
    have q326 : x7_1 < (l0.length : Int) := of_decide_eq_true aM
    obtain ⟨ad326, e326, hx326_0⟩ := Kd.at_string HR0.out x7_1 p326 q326
    cases e326
    replace p326 := eq_true p326
    replace q326 := eq_true q326
    have p327 : 0 ≤ (x7_1 : Int) := of_decide_eq_true aM
    have q327 : x7_1 < (l0.length : Int) := of_decide_eq_true aM
    obtain ⟨ad327, e327, hx327_0⟩ := Kd.at_string HR0.out x7_1 p327 q327
    obtain rfl : ad326 = ad327 := (by injection e327)
    replace p327 := eq_true p327
    replace q327 := eq_true q327
    go_wp2_with (first | (go_at_call 89; (with_reducible refine (slices_isNaN_string.calls (rdOf ByteArray.empty l0 x7_1) false _ A13.out).mono ?_); rintro e w' ⟨rfl, ⟨nd, rfl⟩⟩))
    go_ret2
    exact ⟨by first | rfl | (simp; done) | (simp [*]; done), by repeat (first | exact Drawn0.refl _ | apply Drawn0.step)⟩
   subst c14
   have H1 : ((slices_isNaN_string.f a1).bind fun t329 => (some (x7_1, t329))) = some (r1, r2) := by rw [if_pos rfl] at H; exact H
   clear H
   have H := H1
   clear H1
   obtain ⟨t329, A15, H⟩ := bN H
   (try dsimp only at H)
   simp only [Option.some.injEq, Prod.mk.injEq] at H
   obtain ⟨rfl, rfl⟩ := H
   have p326 : 0 ≤ (x7_1 : Int) := of_decide_eq_true aM
   have q326 : x7_1 < (l0.length : Int) := of_decide_eq_true aM
   obtain ⟨ad326, e326, hx326_0⟩ := Kd.at_string HR0.out x7_1 p326 q326
   cases e326
   replace p326 := eq_true p326
   replace q326 := eq_true q326
   have p327 : 0 ≤ (x7_1 : Int) := of_decide_eq_true aM
   have q327 : x7_1 < (l0.length : Int) := of_decide_eq_true aM
   obtain ⟨ad327, e327, hx327_0⟩ := Kd.at_string HR0.out x7_1 p327 q327
   obtain rfl : ad326 = ad327 := (by injection e327)
   replace p327 := eq_true p327
   replace q327 := eq_true q327
   go_wp2_with (first | (go_at_call 89; (with_reducible refine (slices_isNaN_string.calls (rdOf ByteArray.empty l0 x7_1) true _ A13.out).mono ?_); rintro e w' ⟨rfl, ⟨nd, rfl⟩⟩) | (go_at_call 89; (with_reducible refine (slices_isNaN_string.calls a1 t329 _ A15.out).mono ?_); rintro e w' ⟨rfl, ⟨nd, rfl⟩⟩))
   go_ret2
   exact ⟨by first | rfl | (simp; done) | (simp [*]; done), by repeat (first | exact Drawn0.refl _ | apply Drawn0.step)⟩
/-! ### inner_Route: function 24 -/
def inner_Route.f (k : Nat) (a0_0 : Int) (a0_1 : Int) (a0_2 : Int) (a0_3 : ByteArray) (l0_4 : List Int) (l0_5 : List ByteArray) (a1 : ByteArray) : Option (Int) := (slices_BinarySearch_string_string.f k l0_5 a1).bind fun bt331 => (if bt331.2 = true then (some (wrap64 (bt331.1 + 1))) else (some bt331.1))
theorem inner_Route.mono : ∀ a0 a1 a2 a3 a4 a5 a6 k, LeO (inner_Route.f k a0 a1 a2 a3 a4 a5 a6) (inner_Route.f (k + 1) a0 a1 a2 a3 a4 a5 a6) := by
 intro a0 a1 a2 a3 a4 a5 a6 k
 unfold inner_Route.f
 repeat' first
   | (with_reducible exact slices_BinarySearch_string_string.mono _ _ _)
   | (with_reducible exact LeO.refl _)
   | (with_reducible exact LeO.none _)
   | (with_reducible refine LeO.ite ?_ ?_)
   | (with_reducible refine LeO.bind ?_ (fun _ => ?_))
   | exact slices_BinarySearch_string_string.mono _ _ _
   | exact LeO.none _
   | refine LeO.ite ?_ ?_
   | refine LeO.bind ?_ (fun _ => ?_)
set_option maxHeartbeats 8000000 in
set_option maxRecDepth 100000 in
theorem inner_Route.calls (k : Nat) (a0_0 : Int) (a0_1 : Int) (a0_2 : Int) (a0_3 : ByteArray) (A0_4 : Option Addr) (c0_4 : Nat) (l0_4 : List Int) (A0_5 : Option Addr) (c0_5 : Nat) (l0_5 : List ByteArray) (a1 : ByteArray) (r : Int) (w : World) (hr0_4 : Kd.C (Kd.int .i64) w A0_4 l0_4.length l0_4) (hc0_4 : l0_4.length ≤ c0_4) (hr0_5 : Kd.C Kd.string w A0_5 l0_5.length l0_5) (hc0_5 : l0_5.length ≤ c0_5) (h : inner_Route.f k a0_0 a0_1 a0_2 a0_3 l0_4 l0_5 a1 = some r) :
  Calls Tryz.prog 24 #[.agg #[.int .i64 a0_0, .int .i64 a0_1, .int .i64 a0_2, .string a0_3, .slice A0_4 l0_4.length c0_4, .slice A0_5 l0_5.length c0_5], .string a1] w fun e w' => e = .returned (.int .i64 r) ∧ Below w.heap.size w w' := by
 have hu25 := Tryz.underlying25
 have HR0_4 := Aside0.mk hr0_4
 have HC0_4 := Aside0.mk hc0_4
 clear hr0_4 hc0_4
 have HR0_5 := Aside0.mk hr0_5
 have HC0_5 := Aside0.mk hc0_5
 clear hr0_5 hc0_5
 have HB := as_ (Below.refl w.heap.size w)
 have H : ((slices_BinarySearch_string_string.f k l0_5 a1).bind fun bt331 => (if bt331.2 = true then (some (wrap64 (bt331.1 + 1))) else (some bt331.1))) = some r := h
 clear h
 obtain ⟨⟨t331, t332⟩, A3, H⟩ := bN H
 (try dsimp only at H)
 by_cases c4 : t332 = true
 ·subst c4
  have H1 : (some (wrap64 (t331 + 1))) = some r := by rw [if_pos rfl] at H; exact H
  clear H
  have H := H1
  clear H1
  obtain rfl := Option.some.inj H
  go_enter Tryz.func24, Tryz.ntmps24
  go_wp2_with (first | ((with_reducible refine gate_dst (N := 2) rfl ?_); refine box_event (by rfl) (N := 2) (by rfl) (cs := #[.int .i64 a0_0, .int .i64 a0_1, .int .i64 a0_2, .string a0_3, .slice A0_4 l0_4.length c0_4, .slice A0_5 l0_5.length c0_5]) (t := 25) gS ?_; intro gb330 hg w5 hbox hb; have BK330 := as_ (hbox); have GW330 := gw hg bA; have GE330 := gw hg bA; replace HB := as_ (below_step bA hb); clear hb hbox hg; obtain ⟨hcz6_0, hcz6_1, hcz6_2, hcz6_3, hcz6_4, hcz6_5⟩ := zc6 BK330; obtain ⟨hfz6_0, hfz6_1, hfz6_2, hfz6_3, hfz6_4, hfz6_5⟩ := zf6 BK330) | ((with_reducible refine gate_callee (f := 57) rfl ?_); refine goesL_ (some 11) rfl rfl Tryz.func57 (by kernel_rfl) rfl #[.slice A0_5 l0_5.length c0_5, .string a1] rfl aO ?_; (with_reducible refine (slices_BinarySearch_string_string.calls k _ _ l0_5 a1 t331 true _ ?side1 ?side2 A3.out).mono ?_); (case side1 => repeat (first | exact (Kd.C_below HR0_5.out HB.out) | (with_reducible refine Kd.C_alloc ?_ _) | (with_reducible refine Kd.C_drewN ?_ _) | (with_reducible refine Kd.C_drew ?_))); (case side2 => exact HC0_5.out); rintro e w' ⟨rfl, ⟨nd, rfl⟩⟩; refine ⟨_, rfl, ?_⟩))
  go_ret
  exact ⟨eW, bA⟩
 replace c4 := Bool.eq_false_iff.mpr c4
 subst c4
 have H1 : (some t331) = some r := by rw [if_neg (show ¬ (false = true) by decide)] at H; exact H
 clear H
 have H := H1
 clear H1
 obtain rfl := Option.some.inj H
 go_enter Tryz.func24, Tryz.ntmps24
 go_wp2_with (first | ((with_reducible refine gate_dst (N := 2) rfl ?_); refine box_event (by rfl) (N := 2) (by rfl) (cs := #[.int .i64 a0_0, .int .i64 a0_1, .int .i64 a0_2, .string a0_3, .slice A0_4 l0_4.length c0_4, .slice A0_5 l0_5.length c0_5]) (t := 25) gS ?_; intro gb330 hg w7 hbox hb; have BK330 := as_ (hbox); have GW330 := gw hg bA; have GE330 := gw hg bA; replace HB := as_ (below_step bA hb); clear hb hbox hg; obtain ⟨hcz8_0, hcz8_1, hcz8_2, hcz8_3, hcz8_4, hcz8_5⟩ := zc6 BK330; obtain ⟨hfz8_0, hfz8_1, hfz8_2, hfz8_3, hfz8_4, hfz8_5⟩ := zf6 BK330) | ((with_reducible refine gate_callee (f := 57) rfl ?_); refine goesL_ (some 11) rfl rfl Tryz.func57 (by kernel_rfl) rfl #[.slice A0_5 l0_5.length c0_5, .string a1] rfl aO ?_; (with_reducible refine (slices_BinarySearch_string_string.calls k _ _ l0_5 a1 t331 false _ ?side1 ?side2 A3.out).mono ?_); (case side1 => repeat (first | exact (Kd.C_below HR0_5.out HB.out) | (with_reducible refine Kd.C_alloc ?_ _) | (with_reducible refine Kd.C_drewN ?_ _) | (with_reducible refine Kd.C_drew ?_))); (case side2 => exact HC0_5.out); rintro e w' ⟨rfl, ⟨nd, rfl⟩⟩; refine ⟨_, rfl, ?_⟩))
 go_ret
 exact ⟨eW, bA⟩

/-! ### withyref01_Repeat: function 30 -/
def withyref01_Repeat.l0 : Nat → Int → Int → List Int → Int → Option (ByteArray)
 | 0, _, _, _, _ => none
 | k + 1, x0, x1, x5, x6 => if x6 < x1 then (if x5.length < 140737488355328 then (withyref01_Repeat.l0 k x0 x1 (x5 ++ [x0]) (wrap64 (x6 + 1))) else (none)) else (some (strOfNums x5))
def withyref01_Repeat.f (k : Nat) (a0 : Int) (a1 : Int) : Option (ByteArray) := withyref01_Repeat.l0 k a0 a1 (([] : List Int)) 0
theorem withyref01_Repeat.mono_l : ∀ k, (∀ y0 y1 y2 y3, LeO (withyref01_Repeat.l0 k y0 y1 y2 y3) (withyref01_Repeat.l0 (k + 1) y0 y1 y2 y3))
 | 0 => fun _ _ _ _ r h => by simp [withyref01_Repeat.l0] at h
 | k + 1 => by
  have ih0 := withyref01_Repeat.mono_l k
  ·intro y0 y1 y2 y3
   unfold withyref01_Repeat.l0
   repeat' first
   | (with_reducible exact ih0 _ _ _ _)
   | (with_reducible exact LeO.refl _)
   | (with_reducible exact LeO.none _)
   | (with_reducible refine LeO.ite ?_ ?_)
   | (with_reducible refine LeO.bind ?_ (fun _ => ?_))
   | exact ih0 _ _ _ _
   | exact LeO.none _
   | refine LeO.ite ?_ ?_
   | refine LeO.bind ?_ (fun _ => ?_)
theorem withyref01_Repeat.mono : ∀ a0 a1 k, LeO (withyref01_Repeat.f k a0 a1) (withyref01_Repeat.f (k + 1) a0 a1) := by
 intro a0 a1 k
 have ih0 := withyref01_Repeat.mono_l k
 unfold withyref01_Repeat.f
 repeat' first
   | (with_reducible exact ih0 _ _ _ _)
   | (with_reducible exact LeO.refl _)
   | (with_reducible exact LeO.none _)
   | (with_reducible refine LeO.ite ?_ ?_)
   | (with_reducible refine LeO.bind ?_ (fun _ => ?_))
   | exact ih0 _ _ _ _
   | exact LeO.none _
   | refine LeO.ite ?_ ?_
   | refine LeO.bind ?_ (fun _ => ?_)
set_option maxHeartbeats 8000000 in
set_option maxRecDepth 100000 in
theorem withyref01_Repeat.calls (k : Nat) (a0 : Int) (a1 : Int) (r : ByteArray) (w : World) (h : withyref01_Repeat.f k a0 a1 = some r) :
  Calls Tryz.prog 30 #[.int .u8 a0, .int .i64 a1] w fun e w' => e = .returned (.string r) ∧ Below w.heap.size w w' := by
 have HB := as_ (Below.refl w.heap.size w)
 have H : (withyref01_Repeat.l0 k a0 a1 (([] : List Int)) 0) = some r := h
 clear h
 obtain ⟨y333, hy333⟩ : ∃ y_ : List Int, y_ = (([] : List Int)) := ⟨_, rfl⟩
 replace H : (withyref01_Repeat.l0 k a0 a1 y333 0) = some r := by first | (rw [hy333]; with_reducible exact H) | (have H2_ := (Option.bind_some _ _).symm.trans H; rw [hy333]; with_reducible exact H2_) | (have H2_ := (Option.bind_some _ _).symm.trans H; with_reducible exact H2_) | with_reducible exact H | (rw [hy333]; exact H) | exact H
 have Ny333 := Aside0.mk hy333
 clear hy333
 have H' := Aside0.mk H
 clear H
 go_enter Tryz.func30, Tryz.ntmps30
 go_wp2_with (first | ((with_reducible refine gate_dst (N := 7) rfl ?_); refine Kd.R_lit (Kd.int .u8) _ 5 ?hg (N := 7) ?hd (xs := ([] : List Int)) (inner := []) (ok := fun _ => True) (okp := fun _ => True) ?hr ?hp (fun _ hk => hk) trivial (Below.refl _ _) (Nat.le_refl _) (by simp) ?_; (case hd => rfl); (case hg => rfl); (case hr => first | (go_simp; done) | (go_simp; rfl)); (case hp => exact (Reps.none _ _)); intro v334 w3 ho4 hb hg_ hnew_; clear hg_ hnew_; (first | rw [← Ny333.out] at ho4 | (simp only [Int.reduceToNat] at ho4; rw [← Ny333.out] at ho4)); have HO335 := as_ (Kd.R_lower ho4 (below_size bA)); replace HB := as_ (below_step bA hb); clear hb ho4))
 go_loopg [5, 6] k (fun kq v5 v6 w' => ∃ (x5_1 : List Int) (x6_1 : Int), v6 = .int .i64 x6_1 ∧ Aside0 (withyref01_Repeat.l0 kq a0 a1 x5_1 x6_1 = some r) ∧ Aside0 (kq ≤ k) ∧ Aside0 (Kd.R (Kd.int .u8) 5 w' w.heap.size (fun _ => True) v5 x5_1) ∧ Aside0 (Below w.heap.size w w'))
 case atStart => exact ⟨(y333), (0), (by first | rfl | (simp; done) | (simp [*]; done)), H', ⟨Nat.le_refl _⟩, ⟨by (with_reducible repeat (first | apply Kd.R_alloc | apply Kd.R_drewN | apply Kd.R_drew)); exact HO335.out⟩, ⟨bA⟩⟩
 case round =>
  clear H'
  try clear p2
  try clear c3
  obtain ⟨x5_1, x6_1, rfl, HA, HK1, HO_5, HB⟩ := hrel
  cases gk with
  | zero => exact absurd HA.out (by simp [withyref01_Repeat.l0])
  | succ k1 =>
   have H := HA.out
   clear HA
   simp only [withyref01_Repeat.l0] at H
   by_cases c5 : x6_1 < a1
   rotate_left
   ·rw [if_neg c5] at H
    have c5b0 : decide (x6_1 < a1) = false := decide_eq_false c5
    clear c5
    obtain rfl := Option.some.inj H
    have hcv8 := own_string (P := Tryz.prog) Tryz.underlying98 Tryz.underlying5 Tryz.underlying9 (Kd.own_of_R HO_5.out)
    go_wp2
    go_ret
    exact ⟨eW, bA⟩
 
   rw [if_pos c5] at H
   have c5b0 : decide (x6_1 < a1) = true := decide_eq_true c5
   clear c5
   obtain ⟨c6, H⟩ := iN (c := x5_1.length < 140737488355328) H
   have LMc6 := Aside0.mk c6
   clear c6
   obtain ⟨y336, hy336⟩ : ∃ y_ : List Int, y_ = (x5_1 ++ [a0]) := ⟨_, rfl⟩
   replace H : (withyref01_Repeat.l0 k1 a0 a1 y336 (wrap64 (x6_1 + 1))) = some r := by first | (rw [hy336]; with_reducible exact H) | (have H2_ := (Option.bind_some _ _).symm.trans H; rw [hy336]; with_reducible exact H2_) | (have H2_ := (Option.bind_some _ _).symm.trans H; with_reducible exact H2_) | with_reducible exact H | (rw [hy336]; exact H) | exact H
   have Ny336 := Aside0.mk hy336
   clear hy336
   have H' := Aside0.mk H
   clear H
   go_wp2_with (first | ((with_reducible refine gate_builtin (b := .append) (xs := #[.tmp 13, .tmp 15]) rfl ?_); at_builtin; refine Kd.R_append (Kd.int .u8) (w0 := w) w.heap.size rfl (.tmp 13) (.tmp 15) 98 5 (.int .u8 0) 1 rfl Tryz.underlying98 info5 rfl (by decide) (by omega) u5 x5_1 a0 [.int .u8 a0] (fun _ => True) (fun _ => False) rfl rfl ?aP (fun _ hk => hk.elim) ?aF ?aO ?aB ?aS ?aL ?_; (case aP => exact rfl); (case aB => exact bA); (case aF => exact (fun _ _ => trivial)); (case aO => exact (rD HO_5)); (case aS => exact (below_size bA)); (case aL => have := LMc6.out; omega); intro v337 w7 ho hb hg hat; rw [← Ny336.out] at ho; have HO338 := as_ (ho); replace HB := as_ (hb); clear HO_5; clear ho hb hg hat))
   go_roundg k1
   case measure => have := HK1.out; omega
   case rel => exact ⟨(y336), (wrap64 (x6_1 + 1)), (by first | rfl | (simp; done) | (simp [*]; done)), H', ⟨by have := HK1.out; omega⟩, ⟨by (with_reducible repeat (first | apply Kd.R_alloc | apply Kd.R_drewN | apply Kd.R_drew)); exact HO338.out⟩, ⟨bA⟩⟩
/-! ### withylaw11_two: function 53 -/
def withylaw11_two.f  : Option (Int × Int × Int × ByteArray × List Int × List ByteArray) := some (9, 1, 0, (⟨#[]⟩ : ByteArray), (([4, 5] : List Int)), (([(⟨#[109]⟩ : ByteArray)] : List ByteArray)))
set_option maxHeartbeats 8000000 in
set_option maxRecDepth 100000 in
theorem withylaw11_two.calls  (r1 : Int) (r2 : Int) (r3 : Int) (r4 : ByteArray) (r5 : List Int) (r6 : List ByteArray) (w : World) (h : withylaw11_two.f  = some (r1, r2, r3, r4, r5, r6)) :
  Calls Tryz.prog 53 #[] w fun e w' => ∃ v4_ v5_ : Value, e = .returned (.agg #[.int .i64 r1, .int .i64 r2, .int .i64 r3, .string r4, v4_, v5_]) ∧ Kd.R (Kd.int .i64) 3 w' w.heap.size (fun _ => True) v4_ r5 ∧ Kd.R Kd.string 9 w' w.heap.size (fun _ => True) v5_ r6 ∧ Below w.heap.size w w' := by
 have hu25 := Tryz.underlying25
 have HB := as_ (Below.refl w.heap.size w)
 have H : (some (9, 1, 0, (⟨#[]⟩ : ByteArray), (([4, 5] : List Int)), (([(⟨#[109]⟩ : ByteArray)] : List ByteArray)))) = some (r1, r2, r3, r4, r5, r6) := h
 clear h
 obtain ⟨y340, hy340⟩ : ∃ y_ : List Int, y_ = (([4, 5] : List Int)) := ⟨_, rfl⟩
 replace H : (some (9, 1, 0, (⟨#[]⟩ : ByteArray), y340, (([(⟨#[109]⟩ : ByteArray)] : List ByteArray)))) = some (r1, r2, r3, r4, r5, r6) := by first | (rw [hy340]; with_reducible exact H) | (have H2_ := (Option.bind_some _ _).symm.trans H; rw [hy340]; with_reducible exact H2_) | (have H2_ := (Option.bind_some _ _).symm.trans H; with_reducible exact H2_) | with_reducible exact H | (rw [hy340]; exact H) | exact H
 have Ny340 := Aside0.mk hy340
 clear hy340
 obtain ⟨y343, hy343⟩ : ∃ y_ : List ByteArray, y_ = (([(⟨#[109]⟩ : ByteArray)] : List ByteArray)) := ⟨_, rfl⟩
 replace H : (some (9, 1, 0, (⟨#[]⟩ : ByteArray), y340, y343)) = some (r1, r2, r3, r4, r5, r6) := by first | (rw [hy343]; with_reducible exact H) | (have H2_ := (Option.bind_some _ _).symm.trans H; rw [hy343]; with_reducible exact H2_) | (have H2_ := (Option.bind_some _ _).symm.trans H; with_reducible exact H2_) | with_reducible exact H | (rw [hy343]; exact H) | exact H
 have Ny343 := Aside0.mk hy343
 clear hy343
 simp only [Option.some.injEq, Prod.mk.injEq] at H
 obtain ⟨rfl, rfl, rfl, rfl, rfl, rfl⟩ := H
 go_enter Tryz.func53, Tryz.ntmps53
 go_wp2_with (first | ((with_reducible refine gate_dst (N := 0) rfl ?_); refine box_event ?hg (N := 0) ?hd (cs := #[.int .i64 0, .int .i64 0, .int .i64 0, .string (⟨#[]⟩ : ByteArray), .slice none 0 0, .slice none 0 0]) (t := 25) ?hr ?_; (case hd => rfl); (case hg => rfl); (case hr => first | (go_simp; done) | (go_simp; rfl)); intro gb339 hg w1 hbox hb; have BK339 := as_ (hbox); have GW339 := gw hg bA; have GE339 := gw hg bA; replace HB := as_ (below_step bA hb); clear hb hbox hg) | ((with_reducible refine gate_dst (N := 1) rfl ?_); refine Kd.R_lit (Kd.int .i64) _ 3 ?hg (N := 1) ?hd (xs := ([4, 5] : List Int)) (inner := [.int .i64 4, .int .i64 5]) (ok := fun _ => True) (okp := fun _ => True) ?hr ?hp (fun _ hk => hk) trivial (Below.refl _ _) (Nat.le_refl _) (by simp) ?_; (case hd => rfl); (case hg => rfl); (case hr => first | (go_simp; done) | (go_simp; rfl)); (case hp => exact (Reps.one (show Kd.M (Kd.int .i64) _ _ _ 4 [.int .i64 4] from rfl) (Reps.one (show Kd.M (Kd.int .i64) _ _ _ 5 [.int .i64 5] from rfl) (Reps.none _ _)))); intro v341 w2 ho3 hb hg_ hnew_; clear hg_ hnew_; (first | rw [← Ny340.out] at ho3 | (simp only [Int.reduceToNat] at ho3; rw [← Ny340.out] at ho3)); have HO342 := as_ (Kd.R_lower ho3 (below_size bA)); replace BK339 := as_ (blk_below (g := gb339) (o := .cells #[.int .i64 0, .int .i64 0, .int .i64 0, .string (⟨#[]⟩ : ByteArray), .slice none 0 0, .slice none 0 0] 25 (0, 0)) (bk BK339) hb); replace HB := as_ (below_step bA hb); clear hb ho3) | ((with_reducible refine gate_dst (N := 2) rfl ?_); refine Kd.R_lit Kd.string _ 9 ?hg (N := 2) ?hd (xs := ([(⟨#[109]⟩ : ByteArray)] : List ByteArray)) (inner := [.string (⟨#[109]⟩ : ByteArray)]) (ok := fun _ => True) (okp := fun _ => True) ?hr ?hp (fun _ hk => hk) trivial (Below.refl _ _) (Nat.le_refl _) (by simp) ?_; (case hd => rfl); (case hg => rfl); (case hr => first | (go_simp; done) | (go_simp; rfl)); (case hp => exact (Reps.one (show Kd.M Kd.string _ _ _ (⟨#[109]⟩ : ByteArray) [.string (⟨#[109]⟩ : ByteArray)] from rfl) (Reps.none _ _))); intro v344 w4 ho5 hb hg_ hnew_; clear hg_ hnew_; (first | rw [← Ny343.out] at ho5 | (simp only [Int.reduceToNat] at ho5; rw [← Ny343.out] at ho5)); have HO345 := as_ (Kd.R_lower ho5 (below_size bA)); replace HO342 := as_ (Kd.R_below (rD HO342) hb); replace BK339 := as_ (blk_below (g := gb339) (o := .cells #[.int .i64 0, .int .i64 0, .int .i64 0, .string (⟨#[]⟩ : ByteArray), .slice none 0 0, .slice none 0 0] 25 (0, 0)) (bk BK339) hb); replace HB := as_ (below_step bA hb); clear hb ho5; obtain ⟨Ao6, co6, eo6⟩ := Kd.R_slice HO345.out; subst eo6; obtain ⟨Ao7, co7, eo7⟩ := Kd.R_slice HO342.out; subst eo7; obtain ⟨hcz8_0, hcz8_1, hcz8_2, hcz8_3, hcz8_4, hcz8_5⟩ := zc6 BK339; obtain ⟨hfz8_0, hfz8_1, hfz8_2, hfz8_3, hfz8_4, hfz8_5⟩ := zf6 BK339))
 refine bodyPost_ret (results_cell_row rfl _ _ gb339 25 #[.int .i64 9, .int .i64 1, .int .i64 0, .string (⟨#[]⟩ : ByteArray), .slice Ao7 y340.length co7, .slice Ao6 y343.length co6] (0, 0) _ rfl (by refine bx ?_; refine blk_put (cs := #[.int .i64 9, .int .i64 1, .int .i64 0, .string (⟨#[]⟩ : ByteArray), .slice Ao7 y340.length co7, .slice none 0 0]) ?_ 5 _ rfl; refine bx ?_; refine blk_put (cs := #[.int .i64 9, .int .i64 1, .int .i64 0, .string (⟨#[]⟩ : ByteArray), .slice none 0 0, .slice none 0 0]) ?_ 4 _ rfl; refine bx ?_; refine blk_put (cs := #[.int .i64 9, .int .i64 1, .int .i64 0, .string (⟨#[]⟩ : ByteArray), .slice none 0 0, .slice none 0 0]) ?_ 3 _ rfl; refine bx ?_; refine blk_put (cs := #[.int .i64 9, .int .i64 1, .int .i64 0, .string (⟨#[]⟩ : ByteArray), .slice none 0 0, .slice none 0 0]) ?_ 2 _ rfl; refine bx ?_; refine blk_put (cs := #[.int .i64 9, .int .i64 0, .int .i64 0, .string (⟨#[]⟩ : ByteArray), .slice none 0 0, .slice none 0 0]) ?_ 1 _ rfl; refine bx ?_; refine blk_put (cs := #[.int .i64 0, .int .i64 0, .int .i64 0, .string (⟨#[]⟩ : ByteArray), .slice none 0 0, .slice none 0 0]) ?_ 0 _ rfl; refine bx ?_; exact BK339.out) Tryz.underlying25 rfl (by kernel_rfl)) rfl ?_
 exact ⟨_, _, eW, by (with_reducible repeat (first | apply Kd.R_alloc | apply Kd.R_drewN | apply Kd.R_drew)); exact Kd.R_mono (Kd.R_far (p := ⟨gb339, 5, none⟩) (Kd.R_far (p := ⟨gb339, 4, none⟩) (Kd.R_far (p := ⟨gb339, 3, none⟩) (Kd.R_far (p := ⟨gb339, 2, none⟩) (Kd.R_far (p := ⟨gb339, 1, none⟩) (Kd.R_far (p := ⟨gb339, 0, none⟩) (Kd.R_types HO342.out BK339.out (by decide)) (fun _ hk => hk.2) (.int .i64 9)) (fun _ hk => hk.2) (.int .i64 1)) (fun _ hk => hk.2) (.int .i64 0)) (fun _ hk => hk.2) (.string (⟨#[]⟩ : ByteArray))) (fun _ hk => hk.2) (.slice Ao7 y340.length co7)) (fun _ hk => hk.2) (.slice Ao6 y343.length co6)) (fun _ hk => trivial), by (with_reducible repeat (first | apply Kd.R_alloc | apply Kd.R_drewN | apply Kd.R_drew)); exact Kd.R_mono (Kd.R_far (p := ⟨gb339, 5, none⟩) (Kd.R_far (p := ⟨gb339, 4, none⟩) (Kd.R_far (p := ⟨gb339, 3, none⟩) (Kd.R_far (p := ⟨gb339, 2, none⟩) (Kd.R_far (p := ⟨gb339, 1, none⟩) (Kd.R_far (p := ⟨gb339, 0, none⟩) (Kd.R_types HO345.out BK339.out (by decide)) (fun _ hk => hk.2) (.int .i64 9)) (fun _ hk => hk.2) (.int .i64 1)) (fun _ hk => hk.2) (.int .i64 0)) (fun _ hk => hk.2) (.string (⟨#[]⟩ : ByteArray))) (fun _ hk => hk.2) (.slice Ao7 y340.length co7)) (fun _ hk => hk.2) (.slice Ao6 y343.length co6)) (fun _ hk => trivial), bA⟩

end Go.Proofs.YtafebmhmcdnhkaaGreat.P
