/- What is proved here: for functions of the Go text, a Lean function each, and that the call comes to just what it answers. Conditions: as each contract names them. Written by wip/tools/myprint.py, a driver of the print of the kit. -/
import Derived.Test.YtggfnlnonigkiaaDoorP0
import Derived.Test.YtggfnlnonigkiaaDoorP1
import Derived.Test.YtggfnlnonigkiaaDoorP2
import Derived.Test.YtggfnlnonigkiaaDoorP4
import Derived.Test.YtggfnlnonigkiaaDoorP8
import Derived.Test.YtggfnlnonigkiaaDoorWAbbr
namespace Go.Proofs.YtggfnlnonigkiaaDoor.P
open Go.RowKit Go.Proofs.YtggfnlnonigkiaaDoorW.PrintWords Go.Proofs.YtggfnlnonigkiaaDoorW.PrintLast Go.Proofs.YtggfnlnonigkiaaDoorW.PrintMore Go.Proofs.YtggfnlnonigkiaaDoorW.Abbr
-- PACKED
attribute [local go_sem] max2_int min2_int max_two min_two max_three min_three max_four min_four Go.Proofs.YtggfnlnonigkiaaDoorLaws.str_leq Go.Proofs.YtggfnlnonigkiaaDoorLaws.str_gtr Go.Proofs.YtggfnlnonigkiaaDoorLaws.str_geq Go.Proofs.YtggfnlnonigkiaaDoorLaws.max2_str Go.Proofs.YtggfnlnonigkiaaDoorLaws.min2_str   -- for this text's walks alone
set_option linter.unusedVariables false
set_option linter.unusedSimpArgs false

attribute [local go_sem high] eqA23
/-! ### chain_Parts: function 14, by hand -/
section
open Go.Shelf Go.Proofs.YtggfnlnonigkiaaDoorRange
attribute [local go_sem] Oper.semAt_some
/-- How many bytes are cut from the front. -/
def chain_Parts.cut (room : Int) (x : ByteArray) : Nat := min room.toNat x.size
def chain_Parts.l0 : Nat → ByteArray → Int → List ByteArray → Option (List ByteArray)
 | 0, _, _, _ => none
 | k + 1, x, room, acc => if x.toList = ([] : List UInt8) then some acc else (if 1 ≤ room then (if acc.length < 8796093022208 then chain_Parts.l0 k (x.extract (chain_Parts.cut room x) x.size) room (acc ++ [x.extract 0 (chain_Parts.cut room x)]) else none) else none)
def chain_Parts.f (k : Nat) (a0 : ByteArray) (a1 : Int) : Option (List ByteArray) := chain_Parts.l0 k a0 (wrap64 (a1 - 16)) []
theorem chain_Parts.mono_l : ∀ k y0 y1 y2, LeO (chain_Parts.l0 k y0 y1 y2) (chain_Parts.l0 (k + 1) y0 y1 y2)
 | 0 => fun _ _ _ r h => by simp [chain_Parts.l0] at h
 | k + 1 => by
  intro y0 y1 y2
  unfold chain_Parts.l0
  exact LeO.ite (LeO.refl _) (LeO.ite (LeO.ite (chain_Parts.mono_l k _ _ _) (LeO.none _)) (LeO.none _))
theorem chain_Parts.mono : ∀ a0 a1 k, LeO (chain_Parts.f k a0 a1) (chain_Parts.f (k + 1) a0 a1) := fun a0 a1 k => chain_Parts.mono_l k _ _ _
/-- What lies in memory between two rounds: the boxes of the list made, of the text left, of the room; the two blocks of the loop. -/
structure PartsAt (w : World) (rec : LoopRec) (p : Int) (wr : World) (x : ByteArray) (v : Value) (acc : List ByteArray) : Prop where
 out : wr.heap[w.heap.size]? = some (.cells #[v] 34 (0, 0))
 own : wr.ownsRow (w.heap.size + 5) 9 1 v acc.length (acc.map Value.string)
 vb : wr.heap[w.heap.size + 1]? = some (.cells #[.string x] 9 (0, 0))
 rb : wr.heap[w.heap.size + 2]? = some (.cells #[.int .i64 p] 3 (0, 0))
 dd : wr.heap[w.heap.size + 3]? = some (.deferred (some []))
 lp : wr.heap[w.heap.size + 4]? = some (.loop (rec .ready none))
 below : Below w.heap.size w wr
theorem parts_putObj {w W : World} {l : Nat} (o : Obj) (h : Below w.heap.size w W) (hl : w.heap.size ≤ l) : Below w.heap.size w (W.putObj l o) :=
 ⟨h.os, h.tape, h.output, by have := h.size; simpa using this, fun k hk => (World.putObj_heap_other (by omega)).trans (h.block k hk)⟩
theorem own_base5 {W : World} {b e s n : Nat} {v : Value} {xs : List Value} (h : W.ownsRow b e s v n xs) (k : Nat) (hk : k < b) : some k ≠ v.ownBlock := by
 rcases h.2 with ⟨rfl, _⟩ | ⟨g, cap, cur, rfl, hg, _⟩
 ·simp [Value.ownBlock]
 ·intro e'
  obtain rfl : k = g := by simpa [Value.ownBlock] using e'
  omega
def boxSize (B : Nat) (wr : World) : Nat := match wr.cell? ⟨B, 0, none⟩ with | some (.string s) => s.size | _ => 0
theorem PartsAt.boxSize {w : World} {rec : LoopRec} {p : Int} {wr : World} {x : ByteArray} {v : Value} {acc : List ByteArray} (h : PartsAt w rec p wr x v acc) : boxSize (w.heap.size + 1) wr = x.size := by
 have := blk_cell h.vb 0
 simp at this
 simp [P.boxSize, this]
theorem chain_cuts.calls (a0 : ByteArray) (a1 : Int) (w : World) :
  Calls Tryd.prog 22 #[.string a0, .int .i64 a1] w fun e w' => e = .returned (.func (.func 38) #[] #[.pointer (some ⟨w.heap.size, 0, none⟩), .pointer (some ⟨w.heap.size + 1, 0, none⟩)]) ∧ w' = (w.alloc (.cells #[.string a0] 9)).alloc (.cells #[.int .i64 a1] 3) := by
 go_enter Tryd.func22, Tryd.ntmps22
 go_wp2
 go_ret
 exact ⟨rfl, rfl⟩
theorem Parts_info : (Tryd.prog.info? 9).map (fun i => (i.zero, i.size, i.bytes)) = some (some (.string ⟨#[]⟩), 1, 16) := by kernel_rfl
set_option maxHeartbeats 4000000 in
set_option maxRecDepth 100000 in
theorem chain_Parts.calls (k : Nat) (a0 : ByteArray) (a1 : Int) (r : List ByteArray) (w : World) (h : chain_Parts.f k a0 a1 = some r) :
  Calls Tryd.prog 14 #[.string a0, .int .i64 a1] w fun e w' => ∃ v0_ : Value, e = .returned (v0_) ∧ Kd.R Kd.string 9 w' w.heap.size (fun _ => True) v0_ r ∧ Below w.heap.size w w' := by
 unfold chain_Parts.f at h
 obtain ⟨rm, hrm⟩ : ∃ rm, rm = wrap64 (a1 - 16) := ⟨_, rfl⟩
 rw [← hrm] at h
 refine (callsIn_wide (n := 9)).1 ?_
 refine callsIn_of_wp_marks Tryd.func14 rfl trivial ?_ rfl
 simp only [Tryd.ntmps14, List.size_toArray, List.length_cons, List.length_nil, Nat.reduceAdd, Nat.reduceSub, Array.replicate_succ, Array.replicate_zero, List.push_toArray, List.append_toArray, List.nil_append, List.cons_append]
 have hrm' := Aside0.mk hrm
 clear hrm
 gi_wp2_with (refine ⟨trivial, ?_⟩; gi_at_call 22; (try rw [← hrm'.out]); refine (callsIn_wide.2 (chain_cuts.calls a0 rm _)).mono ?_; rintro e w' ⟨rfl, rfl⟩)
 obtain ⟨W0, hW0⟩ : ∃ W0, ((w.alloc (.cells #[.slice none 0 0] 34)).alloc (.cells #[.string a0] 9)).alloc (.cells #[.int .i64 rm] 3) = W0 := ⟨_, rfl⟩
 have hz : W0.heap.size = w.heap.size + 3 := by rw [← hW0]; simp
 have b0 : W0.heap[w.heap.size]? = some (.cells #[.slice none 0 0] 34 (0, 0)) := by rw [← hW0]; exact blk_alloc (blk_alloc (blk_new w _) _) _
 have b1 : W0.heap[w.heap.size + 1]? = some (.cells #[.string a0] 9 (0, 0)) := by
  rw [← hW0]; have := blk_new (w.alloc (.cells #[.slice none 0 0] 34)) (.cells #[.string a0] 9); rw [World.size_alloc] at this; exact blk_alloc this _
 have b2 : W0.heap[w.heap.size + 2]? = some (.cells #[.int .i64 rm] 3 (0, 0)) := by
  rw [← hW0]; have := blk_new ((w.alloc (.cells #[.slice none 0 0] 34)).alloc (.cells #[.string a0] 9)) (.cells #[.int .i64 rm] 3); rw [World.size_alloc, World.size_alloc] at this; exact this
 have bel0 : Below w.heap.size w W0 := by rw [← hW0]; exact below_alloc (below_alloc (below_alloc (Below.refl _ _) _) _) _
 (try simp only [World.size_alloc])
 rw [hW0]
 clear hW0
 refine rangeFunc_walk (gf := 38) (lb := #[.pointer (some ⟨w.heap.size + 1, 0, none⟩), .pointer (some ⟨w.heap.size + 2, 0, none⟩)]) rfl (by decide) rfl trivial (enters_of Tryd.func38 (by kernel_rfl) rfl) ?_
 intro rec hY
 rw [hz] at hY ⊢
 have hG0 : PartsAt w rec rm ((W0.alloc (.deferred (some []))).alloc (.loop (rec .ready none))) a0 (.slice none 0 0) [] := by
  have n1 := blk_new W0 (.deferred (some []))
  have n2 := blk_new (W0.alloc (.deferred (some []))) (.loop (rec .ready none))
  rw [World.size_alloc, hz] at n2
  rw [hz] at n1
  exact ⟨blk_alloc (blk_alloc b0 _) _, World.ownsRow_nil _ _ _ _, blk_alloc (blk_alloc b1 _) _, blk_alloc (blk_alloc b2 _) _, blk_alloc n1 _, n2, below_alloc (below_alloc bel0 _) _⟩
 clear b0 b1 b2 bel0
 generalize (W0.alloc (.deferred (some []))).alloc (.loop (rec .ready none)) = W1 at hG0 ⊢
 have hYield : ∀ (wr : World) (x : ByteArray) (v : Value) (acc : List ByteArray) (s : ByteArray), PartsAt w rec rm wr x v acc → acc.length < 8796093022208 →
   YieldAt Fence.wide 7 Tryd.prog (w.heap.size + 4) #[.string s] wr fun e W' => e = .returned (.bool true) ∧ ∃ v', PartsAt w rec rm W' x v' (acc ++ [s]) := by
  intro wr x v acc s hG hlen
  refine hY wr _ _ rfl hG.lp ?_
  obtain ⟨i0, hi, hz0, hz1, hz2⟩ := info_parts Parts_info
  simp only [List.zip_toArray, List.zip_cons_cons, List.zip_nil_right, List.zip_nil_left, List.foldl_toArray', List.foldl_cons, List.foldl_nil, List.setIfInBounds_toArray, List.set_cons_zero, List.set_cons_succ, List.size_toArray, List.length_cons, List.length_nil, Nat.reduceAdd]
  gi_wp2
  refine ⟨hG.lp, ?_⟩
  obtain ⟨W2, hW2⟩ : ∃ W2, wr.putObj (w.heap.size + 3 + 1) (.loop (rec .busy none)) = W2 := ⟨_, rfl⟩
  have o2 : ∀ k, k ≠ w.heap.size + 4 → W2.heap[k]? = wr.heap[k]? := fun k hk => by rw [← hW2]; exact World.putObj_heap_other (by omega)
  have l2 : W2.heap[w.heap.size + 4]? = some (.loop (rec .busy none)) := by rw [← hW2]; exact World.putObj_heap_same (blk_lt hG.lp)
  have row2 : W2.ownsRow (w.heap.size + 5) 9 1 v acc.length (acc.map Value.string) := by rw [← hW2]; exact ownsRow_putObj hG.own _ hG.lp rfl
  have box2 : Boxed W2 w.heap.size 34 v := (o2 _ (by omega)).trans hG.out
  have bel2 : Below w.heap.size w W2 := by rw [← hW2]; exact parts_putObj _ hG.below (by omega)
  have sz2 : w.heap.size + 5 ≤ W2.heap.size := by have := blk_lt l2; omega
  rw [hW2]
  have hc := box2.cell
  gi_wp2_with (gi_at_builtin; refine wpListIn_append_own _ rfl _ _ 34 rfl (w.heap.size + 5) 9 i0 (.string ⟨#[]⟩) 1 16 Tryd.underlying34 hi hz0 hz1 hz2 rfl (by decide) _ _ _ rfl (row2.alloc _) ⟨W2.heap.size, 0, none⟩ 1 1 [.string s] rfl rfl (cell_one_new _ _ _) (by simp [Value.oneCell']) (by show acc.length + 1 ≤ 9223372036854775807; omega) (by omega) (by simp; omega) ?_; intro v' w1 hown' hgrow _; obtain ⟨g', cap', rfl⟩ := ownsRow_succ hown'; obtain ⟨hv1, hv2, hr2, hk2, hb2⟩ := box2.appended (by decide) (own_less row2 (by omega : w.heap.size ≤ w.heap.size + 5)) (by omega) (Nat.le_refl _) (own_less hown' (by omega : w.heap.size ≤ w.heap.size + 5)) hgrow; have hr5 := hown'.kept (grownBy_setCell' w1 w.heap.size (.slice (some ⟨g', 0, none⟩) (acc.length + 1) cap')) (.inr (hv1.not_row (by decide) hown').symm); have hc1 := hv1.cell; have hf1 := hv1.frozen)
  have e3 := hk2.same _ _ l2 rfl
  have lt3 := blk_lt e3
  have o3 : ∀ k, k < w.heap.size + 4 → k ≠ w.heap.size → (w1.setCell ⟨w.heap.size, 0, none⟩ (.slice (some ⟨g', 0, none⟩) (acc.length + 1) cap')).heap[k]? = wr.heap[k]? := fun k h1 h2 => by
   refine ((Below.heap_setCell _ _ _ k (by intro e; exact h2 e)).trans (hgrow.block k (by simp; omega) (own_base5 row2 k (by omega)))).trans ?_
   exact (Below.heap_alloc W2 (.cells #[.string s] 9) k (by omega)).trans (o2 k (by omega))
  refine ⟨e3, rfl, .slice (some ⟨g', 0, none⟩) (acc.length + 1) cap', ?_⟩
  have q4 : ∀ k, k ≠ w.heap.size + 4 → ((w1.setCell ⟨w.heap.size, 0, none⟩ (.slice (some ⟨g', 0, none⟩) (acc.length + 1) cap')).putObj (w.heap.size + 3 + 1) (.loop (rec .ready none))).heap[k]? = (w1.setCell ⟨w.heap.size, 0, none⟩ (.slice (some ⟨g', 0, none⟩) (acc.length + 1) cap')).heap[k]? := fun k hk => World.putObj_heap_other (by omega)
  refine ⟨(q4 _ (by omega)).trans hv2, ?_, (q4 _ (by omega)).trans ((o3 _ (by omega) (by omega)).trans hG.vb), (q4 _ (by omega)).trans ((o3 _ (by omega) (by omega)).trans hG.rb), (q4 _ (by omega)).trans ((o3 _ (by omega) (by omega)).trans hG.dd), World.putObj_heap_same lt3, parts_putObj _ (bel2.trans hb2) (by omega)⟩
  have hr6 := ownsRow_putObj hr5 (.loop (rec .ready none)) e3 rfl
  simpa using hr6
 -- WALK
 refine callsIn_of_wp Tryd.func38 rfl trivial ?_ rfl
 simp only [Tryd.ntmps38, List.size_toArray, List.length_cons, List.length_nil, Nat.reduceAdd, Nat.reduceSub, Array.replicate_succ, Array.replicate_zero, List.push_toArray, List.append_toArray, List.nil_append, List.cons_append]
 gi_wp2
 gi_loopw [4] (fun v wr => ∃ (kq : Nat) (x : ByteArray) (acc : List ByteArray) (vo : Value), PartsAt w rec rm wr x vo acc ∧ chain_Parts.l0 kq x rm acc = some r) (fun _ wr => boxSize (w.heap.size + 1) wr)
 case atStart => exact ⟨k, a0, [], _, hG0, h⟩
 case round =>
  clear hG0 h
  obtain ⟨kq, x, acc, vo, hG, hl0⟩ := hrel
  cases kq with
  | zero => simp [chain_Parts.l0] at hl0
  | succ kq =>
   simp only [chain_Parts.l0] at hl0
   have hm0 := hG.boxSize
   have hc1 : wr.cell? ⟨w.heap.size + 1, 0, none⟩ = some (.string x) := blk_cell hG.vb 0
   have hc2 : wr.cell? ⟨w.heap.size + 2, 0, none⟩ = some (.int .i64 rm) := blk_cell hG.rb 0
   by_cases d0 : x.toList = ([] : List UInt8)
   ·rw [if_pos d0] at hl0
    obtain rfl := Option.some.inj hl0
    have d0b : (x.toList != ([] : List UInt8)) = false := bne_eq_false_iff_eq.mpr d0
    gi_wp2
    refine bodyPost_end (results_none rfl _ _ _) rfl ?_
    refine ⟨⟨_, rfl⟩, .inl ⟨hG.lp, ?_⟩⟩
    have o4 : ∀ k, k ≠ w.heap.size + 4 → (wr.putObj (w.heap.size + 3 + 1) (.loop (rec .exhausted none))).heap[k]? = wr.heap[k]? := fun k hk => World.putObj_heap_other (by omega)
    have out4 := (o4 _ (by omega)).trans hG.out
    have dd4 := (o4 _ (by omega)).trans hG.dd
    have row4 := ownsRow_putObj hG.own (.loop (rec .exhausted none)) hG.lp rfl
    have bel4 := parts_putObj (l := w.heap.size + 3 + 1) (.loop (rec .exhausted none)) hG.below (by omega)
    generalize wr.putObj (w.heap.size + 3 + 1) (.loop (rec .exhausted none)) = W4 at out4 dd4 row4 bel4 ⊢
    have hc6 : W4.cell? ⟨w.heap.size, 0, none⟩ = some vo := blk_cell out4 0
    clear hG hc1 hc2 o4 hm0
    gi_wp2
    refine ⟨by simp, .inl ⟨_, _, rfl, run_takeDeferred dd4, ?_⟩⟩
    have row5 := ownsRow_putObj row4 (.deferred none) dd4 rfl
    have bel5 := parts_putObj (l := w.heap.size + 3) (.deferred none) bel4 (by omega)
    refine ⟨_, results_tmp rfl _ _ _, vo, rfl, ?_, bel5⟩
    exact Kd.R_of_own (h1 := fun _ => rfl) (own_less (base := w.heap.size) (by simpa [encs] using row5) (by omega)) (fun _ _ => trivial)
   rw [if_neg d0] at hl0
   have d0b : (x.toList != ([] : List UInt8)) = true := bne_iff_ne.mpr d0
   have d0c : x.toList.isEmpty = false := List.isEmpty_eq_false_iff.mpr d0
   by_cases d1 : 1 ≤ rm
   rotate_left
   ·rw [if_neg d1] at hl0; cases hl0
   rw [if_pos d1] at hl0
   by_cases d2 : acc.length < 8796093022208
   rotate_left
   ·rw [if_neg d2] at hl0; cases hl0
   rw [if_pos d2] at hl0
   obtain ⟨n, hn⟩ : ∃ n, n = chain_Parts.cut rm x := ⟨_, rfl⟩
   rw [← hn] at hl0
   have hn1 : (n : Int) = min rm (x.size : Int) := by rw [hn]; unfold chain_Parts.cut; omega
   have hn2 : n ≤ x.size := by omega
   have hn3 : 0 < x.size := by
    rcases Nat.eq_zero_or_pos x.size with h0 | h0
    rotate_left
    ·exact h0
    refine absurd ?_ d0
    rw [ByteArray.toList_eq]
    exact List.eq_nil_of_length_eq_zero (by rw [data_length]; exact h0)
   have hn4 : 1 ≤ n := by omega
   clear hn
   by_cases hle : rm ≤ (x.size : Int)
   ·obtain rfl : rm = (n : Int) := by omega
    have hle2 : decide ((n : Int) ≤ (x.size : Int)) = true := decide_eq_true hle
    have hlt : ((x.size : Int) < (n : Int)) = False := eq_false (by omega)
    have hlt2 : (x.size < n) = False := eq_false (by omega)
    have hle3 : (n ≤ x.size) = True := eq_true hn2
    have HN := as_ (⟨hn1, hn4, hle⟩ : (n : Int) = min (n : Int) (x.size : Int) ∧ 1 ≤ n ∧ (n : Int) ≤ (x.size : Int))
    clear hn1
    obtain ⟨fn_, tm_, as_, bd_, hy, hR⟩ := hYield _ x vo acc (x.extract 0 n) hG d2
    gi_wp2
    refine hR.mono ?_
    rintro e W3 ⟨rfl, v3, hG3⟩
    have hc5 : W3.cell? ⟨w.heap.size + 1, 0, none⟩ = some (.string x) := blk_cell hG3.vb 0
    have hf5 := blk_frozen hG3.vb 0
    clear hy hR hc1 hc2 hY hYield
    gi_wp2
    refine ⟨⟨kq, x.extract n x.size, _, v3, ⟨(Below.heap_setCell _ _ _ _ (by simp)).trans hG3.out, hG3.own.kept (grownBy_setCell' W3 _ _) (.inr (own_base5 hG3.own _ (by omega)).symm), Boxed.set (t := 9) _ hG3.vb, (Below.heap_setCell _ _ _ _ (by simp)).trans hG3.rb, (Below.heap_setCell _ _ _ _ (by simp)).trans hG3.dd, (Below.heap_setCell _ _ _ _ (by simp)).trans hG3.lp, hG3.below.setCell (by simp) _⟩, hl0⟩, ?_⟩
    rw [hm0]
    have hbx := Boxed.set (t := 9) (.string (x.extract n x.size)) hG3.vb
    have hbs : boxSize (w.heap.size + 1) (W3.setCell ⟨w.heap.size + 1, 0, none⟩ (.string (x.extract n x.size))) = (x.extract n x.size).size := by
     have := blk_cell hbx 0
     simp at this
     simp [P.boxSize, this]
    rw [hbs, ByteArray.size_extract]
    have := HN.out
    omega
   obtain rfl : n = x.size := by omega
   have hle2 : decide (rm ≤ (x.size : Int)) = false := decide_eq_false hle
   have hle3 : (rm ≤ (x.size : Int)) = False := eq_false hle
   have hlt : ((x.size : Int) < rm) = True := eq_true (by omega)
   have hlt2 : decide ((x.size : Int) < rm) = true := decide_eq_true (by omega)
   have HN := as_ (⟨hn1, hn3⟩ : (x.size : Int) = min rm (x.size : Int) ∧ 0 < x.size)
   have e0 : x.extract 0 x.size = x := by simp
   have e1 : x.extract x.size x.size = ByteArray.empty := by simp
   rw [e0, e1] at hl0
   clear hn1 hn2 hn4
   obtain ⟨fn_, tm_, as_, bd_, hy, hR⟩ := hYield _ x vo acc x hG d2
   gi_wp2
   refine hR.mono ?_
   rintro e W3 ⟨rfl, v3, hG3⟩
   have hc5 : W3.cell? ⟨w.heap.size + 1, 0, none⟩ = some (.string x) := blk_cell hG3.vb 0
   have hf5 := blk_frozen hG3.vb 0
   clear hy hR hc1 hc2 hY hYield
   gi_wp2
   refine ⟨⟨kq, ByteArray.empty, _, v3, ⟨(Below.heap_setCell _ _ _ _ (by simp)).trans hG3.out, hG3.own.kept (grownBy_setCell' W3 _ _) (.inr (own_base5 hG3.own _ (by omega)).symm), Boxed.set (t := 9) _ hG3.vb, (Below.heap_setCell _ _ _ _ (by simp)).trans hG3.rb, (Below.heap_setCell _ _ _ _ (by simp)).trans hG3.dd, (Below.heap_setCell _ _ _ _ (by simp)).trans hG3.lp, hG3.below.setCell (by simp) _⟩, hl0⟩, ?_⟩
   rw [hm0]
   have hbx := Boxed.set (t := 9) (.string (ByteArray.empty)) hG3.vb
   have hbs : boxSize (w.heap.size + 1) (W3.setCell ⟨w.heap.size + 1, 0, none⟩ (.string (ByteArray.empty))) = (ByteArray.empty).size := by
    have := blk_cell hbx 0
    simp at this
    simp [P.boxSize, this]
   rw [hbs]
   show 0 < x.size
   have := HN.out
   omega
end


/-! ### chain_Pages: function 15 -/
def chain_Pages.f (a0 : Int) (a1 : Int) : Option (Int) := if (wrap64 (a1 - 16)) = 0 then (none) else (some (wrap64 ((wrap64 ((mx a0 0) / (wrap64 (a1 - 16)))) + (mn ((mx a0 0) % (wrap64 (a1 - 16))) 1))))
set_option maxHeartbeats 8000000 in
set_option maxRecDepth 100000 in
theorem chain_Pages.calls (a0 : Int) (a1 : Int) (r : Int) (w : World) (h : chain_Pages.f a0 a1 = some r) :
  Calls Tryd.prog 15 #[.int .i64 a0, .int .i64 a1] w fun e w' => e = .returned (.int .i64 r) ∧ Below w.heap.size w w' := by
 have HB := as_ (Below.refl w.heap.size w)
 have H : (if (wrap64 (a1 - 16)) = 0 then (none) else (some (wrap64 ((wrap64 ((mx a0 0) / (wrap64 (a1 - 16)))) + (mn ((mx a0 0) % (wrap64 (a1 - 16))) 1))))) = some r := h
 clear h
 obtain ⟨ji3, hji3⟩ : ∃ j_ : Int, (mx a0 0) = j_ := ⟨_, rfl⟩
 replace H : (if (wrap64 (a1 - 16)) = 0 then (none) else (some (wrap64 ((wrap64 ((ji3) / (wrap64 (a1 - 16)))) + (mn ((ji3) % (wrap64 (a1 - 16))) 1))))) = some r := by first | (rw [hji3] at H; exact H) | (simp only [hji3] at H ⊢; exact H)
 (try (have hji3l : 0 ≤ ji3 := by (rw [← hji3]; unfold mx; (repeat' split) <;> omega)))
 (try (have hji3m : 0 ≤ ji3 := by omega))
 have hji3_ : (if a0 < 0 then 0 else a0) = ji3 := hji3
 by_cases c4 : (wrap64 (a1 - 16)) = 0
 ·rw [if_pos c4] at H
  exact absurd H (by simp)
 rw [if_neg c4] at H
 have c4b0 : ((wrap64 (a1 - 16)) == 0) = false := beq_eq_false_iff_ne.mpr c4
 have c4b1 : ((wrap64 (a1 - 16)) != 0) = true := bne_iff_ne.mpr c4
 obtain ⟨ji5, hji5⟩ : ∃ j_ : Int, (mn ((ji3) % (wrap64 (a1 - 16))) 1) = j_ := ⟨_, rfl⟩
 replace H : (some (wrap64 ((wrap64 ((ji3) / (wrap64 (a1 - 16)))) + (ji5)))) = some r := by first | (rw [hji5] at H; exact H) | (simp only [hji5] at H ⊢; exact H)
 have hji5_ : (if 1 < ((ji3) % (wrap64 (a1 - 16))) then 1 else ((ji3) % (wrap64 (a1 - 16)))) = ji5 := hji5
 obtain rfl := Option.some.inj H
 go_enter Tryd.func15, Tryd.ntmps15
 go_wp2
 repeat (go_quiet (fail); try go_wp2)
 go_ret
 exact ⟨by first | (rw [Int.tdiv_eq_ediv_of_nonneg (by assumption)]; rfl) | rfl | (simp [errW_none, errW_some] <;> rfl) | (simp only [← hji3, ← hji5]; first | rfl | (simp [errW_none, errW_some] <;> rfl)) | (simp [*, errW_none, errW_some] <;> rfl), by repeat (first | (with_reducible first | exact HB.out | apply below_alloc | apply pw_below_drewN | apply below_drew1) | exact HB.out)⟩

/-! ### withyref01_Repeat: function 16 -/
def withyref01_Repeat.l0 : Nat → Int → Int → List Int → Int → Option (ByteArray)
 | 0, _, _, _, _ => none
 | k + 1, x0, x1, x5, x6 => if x6 < x1 then (if x5.length < 140737488355328 then (withyref01_Repeat.l0 k x0 x1 (x5 ++ [x0]) (wrap64 (x6 + 1))) else (none)) else (some (strOfNums x5))
def withyref01_Repeat.f (k : Nat) (a0 : Int) (a1 : Int) : Option (ByteArray) := withyref01_Repeat.l0 k a0 a1 (([] : List Int)) 0
theorem withyref01_Repeat.mono_l : ∀ k, (∀ y0 y1 y2 y3, LeO (withyref01_Repeat.l0 k y0 y1 y2 y3) (withyref01_Repeat.l0 (k + 1) y0 y1 y2 y3))
 | 0 => fun _ _ _ _ r h => by simp [withyref01_Repeat.l0] at h
 | k + 1 => by
  have ih0 := withyref01_Repeat.mono_l k
  ·intro y0 y1 y2 y3
   unfold withyref01_Repeat.l0
   repeat' first
   | (with_reducible exact ih0 _ _ _ _)
   | (with_reducible exact LeO.refl _)
   | (with_reducible exact LeO.none _)
   | (with_reducible refine LeO.ite ?_ ?_)
   | (with_reducible refine LeO.bind ?_ (fun _ => ?_))
   | exact ih0 _ _ _ _
   | exact LeO.none _
   | refine LeO.ite ?_ ?_
   | refine LeO.bind ?_ (fun _ => ?_)
theorem withyref01_Repeat.mono : ∀ a0 a1 k, LeO (withyref01_Repeat.f k a0 a1) (withyref01_Repeat.f (k + 1) a0 a1) := by
 intro a0 a1 k
 have ih0 := withyref01_Repeat.mono_l k
 unfold withyref01_Repeat.f
 repeat' first
   | (with_reducible exact ih0 _ _ _ _)
   | (with_reducible exact LeO.refl _)
   | (with_reducible exact LeO.none _)
   | (with_reducible refine LeO.ite ?_ ?_)
   | (with_reducible refine LeO.bind ?_ (fun _ => ?_))
   | exact ih0 _ _ _ _
   | exact LeO.none _
   | refine LeO.ite ?_ ?_
   | refine LeO.bind ?_ (fun _ => ?_)
set_option maxHeartbeats 8000000 in
set_option maxRecDepth 100000 in
theorem withyref01_Repeat.calls (k : Nat) (a0 : Int) (a1 : Int) (r : ByteArray) (w : World) (h : withyref01_Repeat.f k a0 a1 = some r) :
  Calls Tryd.prog 16 #[.int .u8 a0, .int .i64 a1] w fun e w' => e = .returned (.string r) ∧ Below w.heap.size w w' := by
 have HB := as_ (Below.refl w.heap.size w)
 have H : (withyref01_Repeat.l0 k a0 a1 (([] : List Int)) 0) = some r := h
 clear h
 obtain ⟨y175, hy175⟩ : ∃ y_ : List Int, y_ = (([] : List Int)) := ⟨_, rfl⟩
 replace H : (withyref01_Repeat.l0 k a0 a1 y175 0) = some r := by first | (rw [hy175]; with_reducible exact H) | (have H2_ := (Option.bind_some _ _).symm.trans H; rw [hy175]; with_reducible exact H2_) | (have H2_ := (Option.bind_some _ _).symm.trans H; with_reducible exact H2_) | with_reducible exact H | (rw [hy175]; exact H) | exact H
 have Ny175 := Aside0.mk hy175
 clear hy175
 have H' := Aside0.mk H
 clear H
 go_enter Tryd.func16, Tryd.ntmps16
 go_wp2_with (first | ((with_reducible refine gate_dst (N := 7) rfl ?_); refine Kd.R_lit (Kd.int .u8) _ 5 ?hg (N := 7) ?hd (xs := ([] : List Int)) (inner := []) (ok := fun _ => True) (okp := fun _ => True) ?hr ?hp (fun _ hk => hk) trivial (Below.refl _ _) (Nat.le_refl _) (by simp) ?_; (case hd => rfl); (case hg => rfl); (case hr => first | (go_simp; done) | (go_simp; rfl)); (case hp => exact (Reps.none _ _)); intro v176 w3 ho4 hb hg_ hnew_; clear hg_ hnew_; (first | rw [← Ny175.out] at ho4 | (simp only [Int.reduceToNat] at ho4; rw [← Ny175.out] at ho4)); have HO177 := as_ (Kd.R_lower ho4 (below_size bA)); replace HB := as_ (below_step bA hb); clear hb ho4))
 go_loopg [5, 6] k (fun kq v5 v6 w' => ∃ (x5_1 : List Int) (x6_1 : Int), v6 = .int .i64 x6_1 ∧ Aside0 (withyref01_Repeat.l0 kq a0 a1 x5_1 x6_1 = some r) ∧ Aside0 (kq ≤ k) ∧ Aside0 (Kd.R (Kd.int .u8) 5 w' w.heap.size (fun _ => True) v5 x5_1) ∧ Aside0 (Below w.heap.size w w'))
 case atStart => exact ⟨(y175), (0), (by first | rfl | (simp; done) | (simp [*]; done)), H', ⟨Nat.le_refl _⟩, ⟨by (with_reducible repeat (first | apply Kd.R_alloc | apply Kd.R_drewN | apply Kd.R_drew)); exact HO177.out⟩, ⟨by repeat (first | (with_reducible first | exact HB.out | apply below_alloc | apply pw_below_drewN | apply below_drew1) | exact HB.out)⟩⟩
 case round =>
  clear H'
  try clear c1
  try clear p2
  obtain ⟨x5_1, x6_1, rfl, HA, HK1, HO_5, HB⟩ := hrel
  cases gk with
  | zero => exact absurd HA.out (by simp [withyref01_Repeat.l0])
  | succ k1 =>
   have H := HA.out
   clear HA
   simp only [withyref01_Repeat.l0] at H
   by_cases c5 : x6_1 < a1
   rotate_left
   ·rw [if_neg c5] at H
    have c5b0 : decide (x6_1 < a1) = false := decide_eq_false c5
    clear c5
    obtain rfl := Option.some.inj H
    have hcv8 := own_string (P := Tryd.prog) Tryd.underlying53 Tryd.underlying5 Tryd.underlying9 (Kd.own_of_R HO_5.out)
    go_wp2
    go_ret
    exact ⟨eW, by repeat (first | (with_reducible first | exact HB.out | apply below_alloc | apply pw_below_drewN | apply below_drew1) | exact HB.out)⟩
 
   rw [if_pos c5] at H
   have c5b0 : decide (x6_1 < a1) = true := decide_eq_true c5
   clear c5
   by_cases c6 : x5_1.length < 140737488355328
   rotate_left
   ·rw [if_neg c6] at H
    exact absurd H (by simp)
   rw [if_pos c6] at H
   have LMc6 := Aside0.mk c6
   clear c6
   obtain ⟨y178, hy178⟩ : ∃ y_ : List Int, y_ = (x5_1 ++ [a0]) := ⟨_, rfl⟩
   replace H : (withyref01_Repeat.l0 k1 a0 a1 y178 (wrap64 (x6_1 + 1))) = some r := by first | (rw [hy178]; with_reducible exact H) | (have H2_ := (Option.bind_some _ _).symm.trans H; rw [hy178]; with_reducible exact H2_) | (have H2_ := (Option.bind_some _ _).symm.trans H; with_reducible exact H2_) | with_reducible exact H | (rw [hy178]; exact H) | exact H
   have Ny178 := Aside0.mk hy178
   clear hy178
   have H' := Aside0.mk H
   clear H
   go_wp2_with (first | ((with_reducible refine gate_builtin (b := .append) (xs := #[.tmp 13, .tmp 15]) rfl ?_); at_builtin; refine Kd.R_append (Kd.int .u8) (w0 := w) w.heap.size rfl (.tmp 13) (.tmp 15) 53 5 (.int .u8 0) 1 rfl Tryd.underlying53 info5 rfl (by decide) (by omega) u5 x5_1 a0 [.int .u8 a0] (fun _ => True) (fun _ => False) rfl rfl ?aP (fun _ hk => hk.elim) ?aF ?aO ?aB ?aS ?aL ?_; (case aP => exact rfl); (case aB => exact bA); (case aF => exact (fun _ _ => trivial)); (case aO => exact (by (with_reducible repeat (first | apply Kd.R_alloc | apply Kd.R_drewN | apply Kd.R_drew)); exact HO_5.out)); (case aS => exact (below_size bA)); (case aL => have := LMc6.out; omega); intro v179 w7 ho hb hg hat; rw [← Ny178.out] at ho; have HO180 := as_ (ho); replace HB := as_ (hb); clear HO_5; clear ho hb hg hat))
   go_roundg k1
   case measure => have := HK1.out; omega
   case rel => exact ⟨(y178), (wrap64 (x6_1 + 1)), (by first | rfl | (simp; done) | (simp [*]; done)), H', ⟨by have := HK1.out; omega⟩, ⟨by (with_reducible repeat (first | apply Kd.R_alloc | apply Kd.R_drewN | apply Kd.R_drew)); exact HO180.out⟩, ⟨by repeat (first | (with_reducible first | exact HB.out | apply below_alloc | apply pw_below_drewN | apply below_drew1) | exact HB.out)⟩⟩
/-! ### withylaw12_fixed: function 12 -/
def withylaw12_fixed.j0 : Nat → ByteArray → Int → Int → Int → ByteArray → Bool → Int → Int → ByteArray → Option (Bool)
 | 0, _, _, _, _, _, _, _, _, _ => none
 | k + 1, x2, x5, x7, x9, x10, x56, x182000, x182001, x182002 => if x56 = true then (none) else ((chain_Decode.f k x2).bind fun bt193 => ((chain_Decode.f k x10).bind fun bt198 => ((withyref01_Repeat.f k 0 128).bind fun t203 => ((chain_Decode.f k t203).bind fun bt204 => ((withyref01_Repeat.f k 1 113).bind fun t209 => ((chain_Parts.f k t209 128).bind fun t210 => (if 0 < (x2.size : Int) then (if (bt x2 0) = 4 then (if 2 < (x2.size : Int) then (if (bt x2 2) = 3 then (if 16 ≤ 20 then (if 20 ≤ (x2.size : Int) then (if (x2.extract 16 20).toList = ([97, 98, 99, 0] : List UInt8) then (if x5 = 4 then (if x7 = 3 then (if x9 = 3 then (if (bt193.1 == x182000 && (bt193.2.1 == x182001 && (bt193.2.2.1.toList == x182002.toList))) = true then (if bt193.2.2.2 = 0 then (if bt198.2.1 = 6 then (if (bt198.2.2.1.size : Int) = 112 then (if bt198.2.2.2 = 0 then (if bt204.2.2.2 = 3 then (if (t210.length : Int) = 2 then (if 0 < (t210.length : Int) then (if ((rdOf ByteArray.empty t210 0).size : Int) = 112 then (if 1 < (t210.length : Int) then (if ((rdOf ByteArray.empty t210 1).size : Int) = 1 then ((chain_Pages.f 113 128).bind fun t215 => (if t215 = 2 then ((chain_Pages.f 112 128).bind fun t216 => (if t216 = 1 then ((chain_Pages.f 0 128).bind fun t217 => (if t217 = 0 then ((chain_Parts.f k (⟨#[]⟩ : ByteArray) 128).bind fun t218 => (if (t218.length : Int) = 0 then ((chain_May.f x182000 x182001 x182002 128).bind fun t221 => (if t221 = true then ((chain_May.f 0 0 (⟨#[]⟩ : ByteArray) 128).bind fun t222 => (some (!t222))) else (none))) else (none))) else (none))) else (none))) else (none))) else (none)) else (none)) else (none)) else (none)) else (none)) else (none)) else (none)) else (none)) else (none)) else (none)) else (none)) else (none)) else (none)) else (none)) else (none)) else (none)) else (none)) else (none)) else (none)) else (none)) else (none))))))))
def withylaw12_fixed.f (k : Nat)  : Option (Bool) := (chain_Encode.f k 5 0 (⟨#[97, 98, 99]⟩ : ByteArray) 128).bind fun bt182 => ((chain_Encode.f k 5 0 (⟨#[97, 98, 99]⟩ : ByteArray) 64).bind fun bt184 => ((chain_Encode.f k 5 0 (⟨#[]⟩ : ByteArray) 128).bind fun bt186 => ((chain_Encode.f k 5 6 (⟨#[97, 98, 99]⟩ : ByteArray) 128).bind fun bt188 => ((withyref01_Repeat.f k 7 112).bind fun t190 => ((chain_Encode.f k 5 6 t190 128).bind fun bt191 => (if bt182.2 = 0 then (if (bt182.1.size : Int) = 128 then (withylaw12_fixed.j0 k bt182.1 bt184.2 bt186.2 bt188.2 bt191.1 (bt191.2 != 0) 5 0 (⟨#[97, 98, 99]⟩ : ByteArray)) else (withylaw12_fixed.j0 k bt182.1 bt184.2 bt186.2 bt188.2 bt191.1 true 5 0 (⟨#[97, 98, 99]⟩ : ByteArray))) else (withylaw12_fixed.j0 k bt182.1 bt184.2 bt186.2 bt188.2 bt191.1 true 5 0 (⟨#[97, 98, 99]⟩ : ByteArray))))))))
theorem withylaw12_fixed.mono_l : ∀ k, (∀ y0 y1 y2 y3 y4 y5 y6 y7 y8, LeO (withylaw12_fixed.j0 k y0 y1 y2 y3 y4 y5 y6 y7 y8) (withylaw12_fixed.j0 (k + 1) y0 y1 y2 y3 y4 y5 y6 y7 y8))
 | 0 => fun _ _ _ _ _ _ _ _ _ r h => by simp [withylaw12_fixed.j0] at h
 | k + 1 => by
  have ih0 := withylaw12_fixed.mono_l k
  ·intro y0 y1 y2 y3 y4 y5 y6 y7 y8
   unfold withylaw12_fixed.j0
   repeat' first
   | (with_reducible exact ih0 _ _ _ _ _ _ _ _ _)
   | (with_reducible exact chain_Decode.mono _ _)
   | (with_reducible exact chain_Encode.mono _ _ _ _ _)
   | (with_reducible exact chain_Parts.mono _ _ _)
   | (with_reducible exact withyref01_Repeat.mono _ _ _)
   | (with_reducible exact LeO.refl _)
   | (with_reducible exact LeO.none _)
   | (with_reducible refine LeO.ite ?_ ?_)
   | (with_reducible refine LeO.bind ?_ (fun _ => ?_))
   | exact ih0 _ _ _ _ _ _ _ _ _
   | exact chain_Decode.mono _ _
   | exact chain_Encode.mono _ _ _ _ _
   | exact chain_Parts.mono _ _ _
   | exact withyref01_Repeat.mono _ _ _
   | exact LeO.none _
   | refine LeO.ite ?_ ?_
   | refine LeO.bind ?_ (fun _ => ?_)
theorem withylaw12_fixed.mono : ∀ k, LeO (withylaw12_fixed.f k ) (withylaw12_fixed.f (k + 1) ) := by
 intro  k
 have ih0 := withylaw12_fixed.mono_l k
 unfold withylaw12_fixed.f
 repeat' first
   | (with_reducible exact ih0 _ _ _ _ _ _ _ _ _)
   | (with_reducible exact chain_Decode.mono _ _)
   | (with_reducible exact chain_Encode.mono _ _ _ _ _)
   | (with_reducible exact chain_Parts.mono _ _ _)
   | (with_reducible exact withyref01_Repeat.mono _ _ _)
   | (with_reducible exact LeO.refl _)
   | (with_reducible exact LeO.none _)
   | (with_reducible refine LeO.ite ?_ ?_)
   | (with_reducible refine LeO.bind ?_ (fun _ => ?_))
   | exact ih0 _ _ _ _ _ _ _ _ _
   | exact chain_Decode.mono _ _
   | exact chain_Encode.mono _ _ _ _ _
   | exact chain_Parts.mono _ _ _
   | exact withyref01_Repeat.mono _ _ _
   | exact LeO.none _
   | refine LeO.ite ?_ ?_
   | refine LeO.bind ?_ (fun _ => ?_)
set_option maxHeartbeats 8000000 in
set_option maxRecDepth 100000 in
theorem withylaw12_fixed.calls (k : Nat)  (r : Bool) (w : World) (h : withylaw12_fixed.f k  = some r) :
  Calls Tryd.prog 12 #[] w fun e w' => e = .returned (.bool r) ∧ Below w.heap.size w w' := by
 have hu23 := Tryd.underlying23
 have HB := as_ (Below.refl w.heap.size w)
 have H : ((chain_Encode.f k 5 0 (⟨#[97, 98, 99]⟩ : ByteArray) 128).bind fun bt182 => ((chain_Encode.f k 5 0 (⟨#[97, 98, 99]⟩ : ByteArray) 64).bind fun bt184 => ((chain_Encode.f k 5 0 (⟨#[]⟩ : ByteArray) 128).bind fun bt186 => ((chain_Encode.f k 5 6 (⟨#[97, 98, 99]⟩ : ByteArray) 128).bind fun bt188 => ((withyref01_Repeat.f k 7 112).bind fun t190 => ((chain_Encode.f k 5 6 t190 128).bind fun bt191 => (if bt182.2 = 0 then (if (bt182.1.size : Int) = 128 then (withylaw12_fixed.j0 k bt182.1 bt184.2 bt186.2 bt188.2 bt191.1 (bt191.2 != 0) 5 0 (⟨#[97, 98, 99]⟩ : ByteArray)) else (withylaw12_fixed.j0 k bt182.1 bt184.2 bt186.2 bt188.2 bt191.1 true 5 0 (⟨#[97, 98, 99]⟩ : ByteArray))) else (withylaw12_fixed.j0 k bt182.1 bt184.2 bt186.2 bt188.2 bt191.1 true 5 0 (⟨#[97, 98, 99]⟩ : ByteArray))))))))) = some r := h
 clear h
 replace H := bM H
 obtain ⟨⟨t182, t183⟩, A10, H⟩ := H
 replace H : ((chain_Encode.f k 5 0 (⟨#[97, 98, 99]⟩ : ByteArray) 64).bind fun bt184 => ((chain_Encode.f k 5 0 (⟨#[]⟩ : ByteArray) 128).bind fun bt186 => ((chain_Encode.f k 5 6 (⟨#[97, 98, 99]⟩ : ByteArray) 128).bind fun bt188 => ((withyref01_Repeat.f k 7 112).bind fun t190 => ((chain_Encode.f k 5 6 t190 128).bind fun bt191 => (if t183 = 0 then (if (t182.size : Int) = 128 then (withylaw12_fixed.j0 k t182 bt184.2 bt186.2 bt188.2 bt191.1 (bt191.2 != 0) 5 0 (⟨#[97, 98, 99]⟩ : ByteArray)) else (withylaw12_fixed.j0 k t182 bt184.2 bt186.2 bt188.2 bt191.1 true 5 0 (⟨#[97, 98, 99]⟩ : ByteArray))) else (withylaw12_fixed.j0 k t182 bt184.2 bt186.2 bt188.2 bt191.1 true 5 0 (⟨#[97, 98, 99]⟩ : ByteArray)))))))) = some r := H
 have A1 := Aside0.mk A10
 clear A10
 replace H := bM H
 obtain ⟨⟨t184, t185⟩, A20, H⟩ := H
 replace H : ((chain_Encode.f k 5 0 (⟨#[]⟩ : ByteArray) 128).bind fun bt186 => ((chain_Encode.f k 5 6 (⟨#[97, 98, 99]⟩ : ByteArray) 128).bind fun bt188 => ((withyref01_Repeat.f k 7 112).bind fun t190 => ((chain_Encode.f k 5 6 t190 128).bind fun bt191 => (if t183 = 0 then (if (t182.size : Int) = 128 then (withylaw12_fixed.j0 k t182 t185 bt186.2 bt188.2 bt191.1 (bt191.2 != 0) 5 0 (⟨#[97, 98, 99]⟩ : ByteArray)) else (withylaw12_fixed.j0 k t182 t185 bt186.2 bt188.2 bt191.1 true 5 0 (⟨#[97, 98, 99]⟩ : ByteArray))) else (withylaw12_fixed.j0 k t182 t185 bt186.2 bt188.2 bt191.1 true 5 0 (⟨#[97, 98, 99]⟩ : ByteArray))))))) = some r := H
 have A2 := Aside0.mk A20
 clear A20
 replace H := bM H
 obtain ⟨⟨t186, t187⟩, A30, H⟩ := H
 replace H : ((chain_Encode.f k 5 6 (⟨#[97, 98, 99]⟩ : ByteArray) 128).bind fun bt188 => ((withyref01_Repeat.f k 7 112).bind fun t190 => ((chain_Encode.f k 5 6 t190 128).bind fun bt191 => (if t183 = 0 then (if (t182.size : Int) = 128 then (withylaw12_fixed.j0 k t182 t185 t187 bt188.2 bt191.1 (bt191.2 != 0) 5 0 (⟨#[97, 98, 99]⟩ : ByteArray)) else (withylaw12_fixed.j0 k t182 t185 t187 bt188.2 bt191.1 true 5 0 (⟨#[97, 98, 99]⟩ : ByteArray))) else (withylaw12_fixed.j0 k t182 t185 t187 bt188.2 bt191.1 true 5 0 (⟨#[97, 98, 99]⟩ : ByteArray)))))) = some r := H
 have A3 := Aside0.mk A30
 clear A30
 replace H := bM H
 obtain ⟨⟨t188, t189⟩, A40, H⟩ := H
 replace H : ((withyref01_Repeat.f k 7 112).bind fun t190 => ((chain_Encode.f k 5 6 t190 128).bind fun bt191 => (if t183 = 0 then (if (t182.size : Int) = 128 then (withylaw12_fixed.j0 k t182 t185 t187 t189 bt191.1 (bt191.2 != 0) 5 0 (⟨#[97, 98, 99]⟩ : ByteArray)) else (withylaw12_fixed.j0 k t182 t185 t187 t189 bt191.1 true 5 0 (⟨#[97, 98, 99]⟩ : ByteArray))) else (withylaw12_fixed.j0 k t182 t185 t187 t189 bt191.1 true 5 0 (⟨#[97, 98, 99]⟩ : ByteArray))))) = some r := H
 have A4 := Aside0.mk A40
 clear A40
 replace H := bM H
 obtain ⟨t190, A50, H⟩ := H
 replace H : ((chain_Encode.f k 5 6 t190 128).bind fun bt191 => (if t183 = 0 then (if (t182.size : Int) = 128 then (withylaw12_fixed.j0 k t182 t185 t187 t189 bt191.1 (bt191.2 != 0) 5 0 (⟨#[97, 98, 99]⟩ : ByteArray)) else (withylaw12_fixed.j0 k t182 t185 t187 t189 bt191.1 true 5 0 (⟨#[97, 98, 99]⟩ : ByteArray))) else (withylaw12_fixed.j0 k t182 t185 t187 t189 bt191.1 true 5 0 (⟨#[97, 98, 99]⟩ : ByteArray)))) = some r := H
 have A5 := Aside0.mk A50
 clear A50
 replace H := bM H
 obtain ⟨⟨t191, t192⟩, A60, H⟩ := H
 replace H : (if t183 = 0 then (if (t182.size : Int) = 128 then (withylaw12_fixed.j0 k t182 t185 t187 t189 t191 (t192 != 0) 5 0 (⟨#[97, 98, 99]⟩ : ByteArray)) else (withylaw12_fixed.j0 k t182 t185 t187 t189 t191 true 5 0 (⟨#[97, 98, 99]⟩ : ByteArray))) else (withylaw12_fixed.j0 k t182 t185 t187 t189 t191 true 5 0 (⟨#[97, 98, 99]⟩ : ByteArray))) = some r := H
 have A6 := Aside0.mk A60
 clear A60
 have HC7 := Aside0.mk H
 clear H
 go_enter Tryd.func12, Tryd.ntmps12
 (try simp only [List.append_eq, List.cons_append, List.nil_append])
 go_upto_region 7 with (first | ((with_reducible refine gate_dst (N := 1) rfl ?_); (try (refine gate_guard (by rfl) ?_; dsimp only)); refine box_event ?hg (N := 1) ?hd (cs := #[.int .i64 0, .int .i64 0, .string (⟨#[]⟩ : ByteArray)]) (t := 23) ?hr ?_; (case hd => rfl); (case hg => rfl); (case hr => first | (go_simp; done) | (go_simp; rfl)); intro gb181 hg w8 hbox hb; have BK181 := as_ (hbox); have GW181 := gw hg bA; have GE181 := gw hg bA; replace HB := as_ (below_step bA hb); clear hb hbox hg; obtain ⟨hcz9_0, hcz9_1, hcz9_2⟩ := zc3 BK181; obtain ⟨hfz9_0, hfz9_1, hfz9_2⟩ := zf3 BK181) | ((with_reducible refine gate_callee (f := 9) rfl ?_); refine goesL_ (some 22) rfl rfl Tryd.func9 (by kernel_rfl) rfl #[.agg #[.int .i64 5, .int .i64 0, .string (⟨#[97, 98, 99]⟩ : ByteArray)], .int .i64 128] rfl aO ?_; (with_reducible refine (chain_Encode.calls k 5 0 (⟨#[97, 98, 99]⟩ : ByteArray) 128 t182 t183 _ A1.out).mono ?_); rintro e w10 ⟨rfl, hb⟩; refine ⟨_, rfl, ?_⟩; replace BK181 := as_ (blk_below (g := gb181) (o := .cells #[.int .i64 5, .int .i64 0, .string (⟨#[97, 98, 99]⟩ : ByteArray)] 23 (0, 0)) (by refine bx ?_; refine blk_put (cs := #[.int .i64 5, .int .i64 0, .string (⟨#[]⟩ : ByteArray)]) ?_ 2 _ rfl; refine bx ?_; refine blk_put (cs := #[.int .i64 5, .int .i64 0, .string (⟨#[]⟩ : ByteArray)]) ?_ 1 _ rfl; refine bx ?_; refine blk_put (cs := #[.int .i64 0, .int .i64 0, .string (⟨#[]⟩ : ByteArray)]) ?_ 0 _ rfl; refine bx ?_; exact BK181.out) hb); replace HB := as_ (below_step bA hb); (try clear hb); (try clear hb2); (try clear hk); (try clear hi); obtain ⟨hcz11_0, hcz11_1, hcz11_2⟩ := zc3 BK181; obtain ⟨hfz11_0, hfz11_1, hfz11_2⟩ := zf3 BK181) | ((with_reducible refine gate_callee (f := 9) rfl ?_); refine goesL_ (some 27) rfl rfl Tryd.func9 (by kernel_rfl) rfl #[.agg #[.int .i64 5, .int .i64 0, .string (⟨#[97, 98, 99]⟩ : ByteArray)], .int .i64 64] rfl aO ?_; (with_reducible refine (chain_Encode.calls k 5 0 (⟨#[97, 98, 99]⟩ : ByteArray) 64 t184 t185 _ A2.out).mono ?_); rintro e w12 ⟨rfl, hb⟩; refine ⟨_, rfl, ?_⟩; replace BK181 := as_ (blk_below (g := gb181) (o := .cells #[.int .i64 5, .int .i64 0, .string (⟨#[97, 98, 99]⟩ : ByteArray)] 23 (0, 0)) (bk BK181) hb); replace HB := as_ (below_step bA hb); (try clear hb); (try clear hb2); (try clear hk); (try clear hi)) | ((with_reducible refine gate_callee (f := 9) rfl ?_); refine goesL_ (some 32) rfl rfl Tryd.func9 (by kernel_rfl) rfl #[.agg #[.int .i64 5, .int .i64 0, .string (⟨#[]⟩ : ByteArray)], .int .i64 128] rfl aO ?_; (with_reducible refine (chain_Encode.calls k 5 0 (⟨#[]⟩ : ByteArray) 128 t186 t187 _ A3.out).mono ?_); rintro e w13 ⟨rfl, hb⟩; refine ⟨_, rfl, ?_⟩; replace BK181 := as_ (blk_below (g := gb181) (o := .cells #[.int .i64 5, .int .i64 0, .string (⟨#[97, 98, 99]⟩ : ByteArray)] 23 (0, 0)) (bk BK181) hb); replace HB := as_ (below_step bA hb); (try clear hb); (try clear hb2); (try clear hk); (try clear hi)) | ((with_reducible refine gate_callee (f := 9) rfl ?_); refine goesL_ (some 37) rfl rfl Tryd.func9 (by kernel_rfl) rfl #[.agg #[.int .i64 5, .int .i64 6, .string (⟨#[97, 98, 99]⟩ : ByteArray)], .int .i64 128] rfl aO ?_; (with_reducible refine (chain_Encode.calls k 5 6 (⟨#[97, 98, 99]⟩ : ByteArray) 128 t188 t189 _ A4.out).mono ?_); rintro e w14 ⟨rfl, hb⟩; refine ⟨_, rfl, ?_⟩; replace BK181 := as_ (blk_below (g := gb181) (o := .cells #[.int .i64 5, .int .i64 0, .string (⟨#[97, 98, 99]⟩ : ByteArray)] 23 (0, 0)) (bk BK181) hb); replace HB := as_ (below_step bA hb); (try clear hb); (try clear hb2); (try clear hk); (try clear hi)) | ((with_reducible refine gate_callee (f := 16) rfl ?_); refine goesL_ (some 41) rfl rfl Tryd.func16 (by kernel_rfl) rfl #[.int .u8 7, .int .i64 112] rfl aO ?_; (with_reducible refine (withyref01_Repeat.calls k 7 112 t190 _ A5.out).mono ?_); rintro e w15 ⟨rfl, hb⟩; refine ⟨_, rfl, ?_⟩; replace BK181 := as_ (blk_below (g := gb181) (o := .cells #[.int .i64 5, .int .i64 0, .string (⟨#[97, 98, 99]⟩ : ByteArray)] 23 (0, 0)) (bk BK181) hb); replace HB := as_ (below_step bA hb); (try clear hb); (try clear hb2); (try clear hk); (try clear hi)) | ((with_reducible refine gate_callee (f := 9) rfl ?_); refine goesL_ (some 43) rfl rfl Tryd.func9 (by kernel_rfl) rfl #[.agg #[.int .i64 5, .int .i64 6, .string t190], .int .i64 128] rfl aO ?_; (with_reducible refine (chain_Encode.calls k 5 6 t190 128 t191 t192 _ A6.out).mono ?_); rintro e w16 ⟨rfl, hb⟩; refine ⟨_, rfl, ?_⟩; replace BK181 := as_ (blk_below (g := gb181) (o := .cells #[.int .i64 5, .int .i64 0, .string (⟨#[97, 98, 99]⟩ : ByteArray)] 23 (0, 0)) (bk BK181) hb); replace HB := as_ (below_step bA hb); (try clear hb); (try clear hb2); (try clear hk); (try clear hi)))
 (try simp only [Act.put, List.setIfInBounds_toArray, List.set_cons_zero, List.set_cons_succ])
 go_cut [56] (fun v56 wc => ∃ (kq : Nat) (x56_6 : Bool), v56 = .bool x56_6 ∧ Aside0 (withylaw12_fixed.j0 kq t182 t185 t187 t189 t191 x56_6 5 0 (⟨#[97, 98, 99]⟩ : ByteArray) = some r) ∧ Aside0 (kq ≤ k) ∧ Aside0 (wc.heap[gb181]? = some (.cells #[.int .i64 5, .int .i64 0, .string (⟨#[97, 98, 99]⟩ : ByteArray)] 23 (0, 0))) ∧ Aside0 (Below w.heap.size w wc))
 case first =>
  have H := HC7.out
  clear HC7
  by_cases c17 : t183 = 0
  rotate_left
  ·rw [if_neg c17] at H
   have c17b0 : (t183 == 0) = false := beq_eq_false_iff_ne.mpr c17
   have c17b1 : (t183 != 0) = true := bne_iff_ne.mpr c17
   (first | rw [c17b0] | (simp only [i64_w, i32_w]; rw [c17b0]) | rw [c17b1] | skip)
   have H' := Aside0.mk H
   clear H
   go_wp2
   go_meet
   case rel => exact ⟨_, (true), (by first | rfl | (simp; done) | (simp [*]; done)), H', ⟨by first | omega | exact Nat.le_refl _⟩, ⟨by refine bx ?_; exact BK181.out⟩, ⟨by repeat (first | (with_reducible first | exact HB.out | apply below_alloc | apply pw_below_drewN | apply below_drew1 | refine below_set ?_ GE181.out) | exact HB.out)⟩⟩
  rw [if_pos c17] at H
  have c17b0 : (t183 == 0) = true := beq_iff_eq.mpr c17
  have c17b1 : (t183 != 0) = false := bne_eq_false_iff_eq.mpr c17
  clear c17
  (first | rw [c17b0] | (simp only [i64_w, i32_w]; rw [c17b0]) | rw [c17b1] | skip)
  by_cases c18 : (t182.size : Int) = 128
  rotate_left
  ·rw [if_neg c18] at H
   have c18b0 : ((t182.size : Int) == 128) = false := beq_eq_false_iff_ne.mpr c18
   have c18b1 : ((t182.size : Int) != 128) = true := bne_iff_ne.mpr c18
   have H' := Aside0.mk H
   clear H
   go_wp2
   go_meet
   case rel => exact ⟨_, (true), (by first | rfl | (simp; done) | (simp [*]; done)), H', ⟨by first | omega | exact Nat.le_refl _⟩, ⟨by refine bx ?_; exact BK181.out⟩, ⟨by repeat (first | (with_reducible first | exact HB.out | apply below_alloc | apply pw_below_drewN | apply below_drew1 | refine below_set ?_ GE181.out) | exact HB.out)⟩⟩
  rw [if_pos c18] at H
  have c18b0 : ((t182.size : Int) == 128) = true := beq_iff_eq.mpr c18
  have c18b1 : ((t182.size : Int) != 128) = false := bne_eq_false_iff_eq.mpr c18
  clear c18
  have H' := Aside0.mk H
  clear H
  go_wp2
  go_meet
  case rel => exact ⟨_, ((t192 != 0)), (by first | rfl | (simp; done) | (simp [*]; done)), H', ⟨by first | omega | exact Nat.le_refl _⟩, ⟨by refine bx ?_; exact BK181.out⟩, ⟨by repeat (first | (with_reducible first | exact HB.out | apply below_alloc | apply pw_below_drewN | apply below_drew1 | refine below_set ?_ GE181.out) | exact HB.out)⟩⟩
 case rest =>
  clear HC7
  try clear c1
  try clear p2
  try clear c9
  try clear c12
  try clear c16
  try clear c17
  try clear c17b0
  try clear c17b1
  try clear c18
  try clear c18b0
  try clear c18b1
  try clear hcz11_0
  try clear hcz11_1
  try clear hcz11_2
  try clear hcz9_0
  try clear hcz9_1
  try clear hcz9_2
  try clear hfz11_0
  try clear hfz11_1
  try clear hfz11_2
  try clear hfz9_0
  try clear hfz9_1
  try clear hfz9_2
  obtain ⟨kq, x56_6, rfl, HA, HJ6, BK181, HB⟩ := hcut
  cases kq with
  | zero => exact absurd HA.out (by simp [withylaw12_fixed.j0])
  | succ kj6 =>
   have H := HA.out
   clear HA
   simp only [withylaw12_fixed.j0] at H
   by_cases c19 : x56_6 = true
   ·subst c19
    have H1 : (none) = some r := by rw [if_pos rfl] at H; exact H
    clear H
    have H := H1
    clear H1
    exact absurd H (by simp)
   replace c19 := Bool.eq_false_iff.mpr c19
   subst c19
   have H1 : ((chain_Decode.f kj6 t182).bind fun bt193 => ((chain_Decode.f kj6 t191).bind fun bt198 => ((withyref01_Repeat.f kj6 0 128).bind fun t203 => ((chain_Decode.f kj6 t203).bind fun bt204 => ((withyref01_Repeat.f kj6 1 113).bind fun t209 => ((chain_Parts.f kj6 t209 128).bind fun t210 => (if 0 < (t182.size : Int) then (if (bt t182 0) = 4 then (if 2 < (t182.size : Int) then (if (bt t182 2) = 3 then (if 16 ≤ 20 then (if 20 ≤ (t182.size : Int) then (if (t182.extract 16 20).toList = ([97, 98, 99, 0] : List UInt8) then (if t185 = 4 then (if t187 = 3 then (if t189 = 3 then (if (bt193.1 == 5 && (bt193.2.1 == 0 && (bt193.2.2.1.toList == (⟨#[97, 98, 99]⟩ : ByteArray).toList))) = true then (if bt193.2.2.2 = 0 then (if bt198.2.1 = 6 then (if (bt198.2.2.1.size : Int) = 112 then (if bt198.2.2.2 = 0 then (if bt204.2.2.2 = 3 then (if (t210.length : Int) = 2 then (if 0 < (t210.length : Int) then (if ((rdOf ByteArray.empty t210 0).size : Int) = 112 then (if 1 < (t210.length : Int) then (if ((rdOf ByteArray.empty t210 1).size : Int) = 1 then ((chain_Pages.f 113 128).bind fun t215 => (if t215 = 2 then ((chain_Pages.f 112 128).bind fun t216 => (if t216 = 1 then ((chain_Pages.f 0 128).bind fun t217 => (if t217 = 0 then ((chain_Parts.f kj6 (⟨#[]⟩ : ByteArray) 128).bind fun t218 => (if (t218.length : Int) = 0 then ((chain_May.f 5 0 (⟨#[97, 98, 99]⟩ : ByteArray) 128).bind fun t221 => (if t221 = true then ((chain_May.f 0 0 (⟨#[]⟩ : ByteArray) 128).bind fun t222 => (some (!t222))) else (none))) else (none))) else (none))) else (none))) else (none))) else (none)) else (none)) else (none)) else (none)) else (none)) else (none)) else (none)) else (none)) else (none)) else (none)) else (none)) else (none)) else (none)) else (none)) else (none)) else (none)) else (none)) else (none)) else (none)) else (none)) else (none)))))))) = some r := by rw [if_neg (show ¬ (false = true) by decide)] at H; exact H
   clear H
   have H := H1
   clear H1
   replace H := bM H
   obtain ⟨⟨t193, t194, t195, t196⟩, A200, H⟩ := H
   replace H : ((chain_Decode.f kj6 t191).bind fun bt198 => ((withyref01_Repeat.f kj6 0 128).bind fun t203 => ((chain_Decode.f kj6 t203).bind fun bt204 => ((withyref01_Repeat.f kj6 1 113).bind fun t209 => ((chain_Parts.f kj6 t209 128).bind fun t210 => (if 0 < (t182.size : Int) then (if (bt t182 0) = 4 then (if 2 < (t182.size : Int) then (if (bt t182 2) = 3 then (if 16 ≤ 20 then (if 20 ≤ (t182.size : Int) then (if (t182.extract 16 20).toList = ([97, 98, 99, 0] : List UInt8) then (if t185 = 4 then (if t187 = 3 then (if t189 = 3 then (if (t193 == 5 && (t194 == 0 && (t195.toList == (⟨#[97, 98, 99]⟩ : ByteArray).toList))) = true then (if t196 = 0 then (if bt198.2.1 = 6 then (if (bt198.2.2.1.size : Int) = 112 then (if bt198.2.2.2 = 0 then (if bt204.2.2.2 = 3 then (if (t210.length : Int) = 2 then (if 0 < (t210.length : Int) then (if ((rdOf ByteArray.empty t210 0).size : Int) = 112 then (if 1 < (t210.length : Int) then (if ((rdOf ByteArray.empty t210 1).size : Int) = 1 then ((chain_Pages.f 113 128).bind fun t215 => (if t215 = 2 then ((chain_Pages.f 112 128).bind fun t216 => (if t216 = 1 then ((chain_Pages.f 0 128).bind fun t217 => (if t217 = 0 then ((chain_Parts.f kj6 (⟨#[]⟩ : ByteArray) 128).bind fun t218 => (if (t218.length : Int) = 0 then ((chain_May.f 5 0 (⟨#[97, 98, 99]⟩ : ByteArray) 128).bind fun t221 => (if t221 = true then ((chain_May.f 0 0 (⟨#[]⟩ : ByteArray) 128).bind fun t222 => (some (!t222))) else (none))) else (none))) else (none))) else (none))) else (none))) else (none)) else (none)) else (none)) else (none)) else (none)) else (none)) else (none)) else (none)) else (none)) else (none)) else (none)) else (none)) else (none)) else (none)) else (none)) else (none)) else (none)) else (none)) else (none)) else (none)) else (none))))))) = some r := H
   have A20 := Aside0.mk A200
   clear A200
   replace H := bM H
   obtain ⟨⟨t198, t199, t200, t201⟩, A210, H⟩ := H
   replace H : ((withyref01_Repeat.f kj6 0 128).bind fun t203 => ((chain_Decode.f kj6 t203).bind fun bt204 => ((withyref01_Repeat.f kj6 1 113).bind fun t209 => ((chain_Parts.f kj6 t209 128).bind fun t210 => (if 0 < (t182.size : Int) then (if (bt t182 0) = 4 then (if 2 < (t182.size : Int) then (if (bt t182 2) = 3 then (if 16 ≤ 20 then (if 20 ≤ (t182.size : Int) then (if (t182.extract 16 20).toList = ([97, 98, 99, 0] : List UInt8) then (if t185 = 4 then (if t187 = 3 then (if t189 = 3 then (if (t193 == 5 && (t194 == 0 && (t195.toList == (⟨#[97, 98, 99]⟩ : ByteArray).toList))) = true then (if t196 = 0 then (if t199 = 6 then (if (t200.size : Int) = 112 then (if t201 = 0 then (if bt204.2.2.2 = 3 then (if (t210.length : Int) = 2 then (if 0 < (t210.length : Int) then (if ((rdOf ByteArray.empty t210 0).size : Int) = 112 then (if 1 < (t210.length : Int) then (if ((rdOf ByteArray.empty t210 1).size : Int) = 1 then ((chain_Pages.f 113 128).bind fun t215 => (if t215 = 2 then ((chain_Pages.f 112 128).bind fun t216 => (if t216 = 1 then ((chain_Pages.f 0 128).bind fun t217 => (if t217 = 0 then ((chain_Parts.f kj6 (⟨#[]⟩ : ByteArray) 128).bind fun t218 => (if (t218.length : Int) = 0 then ((chain_May.f 5 0 (⟨#[97, 98, 99]⟩ : ByteArray) 128).bind fun t221 => (if t221 = true then ((chain_May.f 0 0 (⟨#[]⟩ : ByteArray) 128).bind fun t222 => (some (!t222))) else (none))) else (none))) else (none))) else (none))) else (none))) else (none)) else (none)) else (none)) else (none)) else (none)) else (none)) else (none)) else (none)) else (none)) else (none)) else (none)) else (none)) else (none)) else (none)) else (none)) else (none)) else (none)) else (none)) else (none)) else (none)) else (none)))))) = some r := H
   have A21 := Aside0.mk A210
   clear A210
   replace H := bM H
   obtain ⟨t203, A220, H⟩ := H
   replace H : ((chain_Decode.f kj6 t203).bind fun bt204 => ((withyref01_Repeat.f kj6 1 113).bind fun t209 => ((chain_Parts.f kj6 t209 128).bind fun t210 => (if 0 < (t182.size : Int) then (if (bt t182 0) = 4 then (if 2 < (t182.size : Int) then (if (bt t182 2) = 3 then (if 16 ≤ 20 then (if 20 ≤ (t182.size : Int) then (if (t182.extract 16 20).toList = ([97, 98, 99, 0] : List UInt8) then (if t185 = 4 then (if t187 = 3 then (if t189 = 3 then (if (t193 == 5 && (t194 == 0 && (t195.toList == (⟨#[97, 98, 99]⟩ : ByteArray).toList))) = true then (if t196 = 0 then (if t199 = 6 then (if (t200.size : Int) = 112 then (if t201 = 0 then (if bt204.2.2.2 = 3 then (if (t210.length : Int) = 2 then (if 0 < (t210.length : Int) then (if ((rdOf ByteArray.empty t210 0).size : Int) = 112 then (if 1 < (t210.length : Int) then (if ((rdOf ByteArray.empty t210 1).size : Int) = 1 then ((chain_Pages.f 113 128).bind fun t215 => (if t215 = 2 then ((chain_Pages.f 112 128).bind fun t216 => (if t216 = 1 then ((chain_Pages.f 0 128).bind fun t217 => (if t217 = 0 then ((chain_Parts.f kj6 (⟨#[]⟩ : ByteArray) 128).bind fun t218 => (if (t218.length : Int) = 0 then ((chain_May.f 5 0 (⟨#[97, 98, 99]⟩ : ByteArray) 128).bind fun t221 => (if t221 = true then ((chain_May.f 0 0 (⟨#[]⟩ : ByteArray) 128).bind fun t222 => (some (!t222))) else (none))) else (none))) else (none))) else (none))) else (none))) else (none)) else (none)) else (none)) else (none)) else (none)) else (none)) else (none)) else (none)) else (none)) else (none)) else (none)) else (none)) else (none)) else (none)) else (none)) else (none)) else (none)) else (none)) else (none)) else (none)) else (none))))) = some r := H
   have A22 := Aside0.mk A220
   clear A220
   replace H := bM H
   obtain ⟨⟨t204, t205, t206, t207⟩, A230, H⟩ := H
   replace H : ((withyref01_Repeat.f kj6 1 113).bind fun t209 => ((chain_Parts.f kj6 t209 128).bind fun t210 => (if 0 < (t182.size : Int) then (if (bt t182 0) = 4 then (if 2 < (t182.size : Int) then (if (bt t182 2) = 3 then (if 16 ≤ 20 then (if 20 ≤ (t182.size : Int) then (if (t182.extract 16 20).toList = ([97, 98, 99, 0] : List UInt8) then (if t185 = 4 then (if t187 = 3 then (if t189 = 3 then (if (t193 == 5 && (t194 == 0 && (t195.toList == (⟨#[97, 98, 99]⟩ : ByteArray).toList))) = true then (if t196 = 0 then (if t199 = 6 then (if (t200.size : Int) = 112 then (if t201 = 0 then (if t207 = 3 then (if (t210.length : Int) = 2 then (if 0 < (t210.length : Int) then (if ((rdOf ByteArray.empty t210 0).size : Int) = 112 then (if 1 < (t210.length : Int) then (if ((rdOf ByteArray.empty t210 1).size : Int) = 1 then ((chain_Pages.f 113 128).bind fun t215 => (if t215 = 2 then ((chain_Pages.f 112 128).bind fun t216 => (if t216 = 1 then ((chain_Pages.f 0 128).bind fun t217 => (if t217 = 0 then ((chain_Parts.f kj6 (⟨#[]⟩ : ByteArray) 128).bind fun t218 => (if (t218.length : Int) = 0 then ((chain_May.f 5 0 (⟨#[97, 98, 99]⟩ : ByteArray) 128).bind fun t221 => (if t221 = true then ((chain_May.f 0 0 (⟨#[]⟩ : ByteArray) 128).bind fun t222 => (some (!t222))) else (none))) else (none))) else (none))) else (none))) else (none))) else (none)) else (none)) else (none)) else (none)) else (none)) else (none)) else (none)) else (none)) else (none)) else (none)) else (none)) else (none)) else (none)) else (none)) else (none)) else (none)) else (none)) else (none)) else (none)) else (none)) else (none)))) = some r := H
   have A23 := Aside0.mk A230
   clear A230
   replace H := bM H
   obtain ⟨t209, A240, H⟩ := H
   replace H : ((chain_Parts.f kj6 t209 128).bind fun t210 => (if 0 < (t182.size : Int) then (if (bt t182 0) = 4 then (if 2 < (t182.size : Int) then (if (bt t182 2) = 3 then (if 16 ≤ 20 then (if 20 ≤ (t182.size : Int) then (if (t182.extract 16 20).toList = ([97, 98, 99, 0] : List UInt8) then (if t185 = 4 then (if t187 = 3 then (if t189 = 3 then (if (t193 == 5 && (t194 == 0 && (t195.toList == (⟨#[97, 98, 99]⟩ : ByteArray).toList))) = true then (if t196 = 0 then (if t199 = 6 then (if (t200.size : Int) = 112 then (if t201 = 0 then (if t207 = 3 then (if (t210.length : Int) = 2 then (if 0 < (t210.length : Int) then (if ((rdOf ByteArray.empty t210 0).size : Int) = 112 then (if 1 < (t210.length : Int) then (if ((rdOf ByteArray.empty t210 1).size : Int) = 1 then ((chain_Pages.f 113 128).bind fun t215 => (if t215 = 2 then ((chain_Pages.f 112 128).bind fun t216 => (if t216 = 1 then ((chain_Pages.f 0 128).bind fun t217 => (if t217 = 0 then ((chain_Parts.f kj6 (⟨#[]⟩ : ByteArray) 128).bind fun t218 => (if (t218.length : Int) = 0 then ((chain_May.f 5 0 (⟨#[97, 98, 99]⟩ : ByteArray) 128).bind fun t221 => (if t221 = true then ((chain_May.f 0 0 (⟨#[]⟩ : ByteArray) 128).bind fun t222 => (some (!t222))) else (none))) else (none))) else (none))) else (none))) else (none))) else (none)) else (none)) else (none)) else (none)) else (none)) else (none)) else (none)) else (none)) else (none)) else (none)) else (none)) else (none)) else (none)) else (none)) else (none)) else (none)) else (none)) else (none)) else (none)) else (none)) else (none))) = some r := H
   have A24 := Aside0.mk A240
   clear A240
   replace H := bM H
   obtain ⟨t210, A250, H⟩ := H
   replace H : (if 0 < (t182.size : Int) then (if (bt t182 0) = 4 then (if 2 < (t182.size : Int) then (if (bt t182 2) = 3 then (if 16 ≤ 20 then (if 20 ≤ (t182.size : Int) then (if (t182.extract 16 20).toList = ([97, 98, 99, 0] : List UInt8) then (if t185 = 4 then (if t187 = 3 then (if t189 = 3 then (if (t193 == 5 && (t194 == 0 && (t195.toList == (⟨#[97, 98, 99]⟩ : ByteArray).toList))) = true then (if t196 = 0 then (if t199 = 6 then (if (t200.size : Int) = 112 then (if t201 = 0 then (if t207 = 3 then (if (t210.length : Int) = 2 then (if 0 < (t210.length : Int) then (if ((rdOf ByteArray.empty t210 0).size : Int) = 112 then (if 1 < (t210.length : Int) then (if ((rdOf ByteArray.empty t210 1).size : Int) = 1 then ((chain_Pages.f 113 128).bind fun t215 => (if t215 = 2 then ((chain_Pages.f 112 128).bind fun t216 => (if t216 = 1 then ((chain_Pages.f 0 128).bind fun t217 => (if t217 = 0 then ((chain_Parts.f kj6 (⟨#[]⟩ : ByteArray) 128).bind fun t218 => (if (t218.length : Int) = 0 then ((chain_May.f 5 0 (⟨#[97, 98, 99]⟩ : ByteArray) 128).bind fun t221 => (if t221 = true then ((chain_May.f 0 0 (⟨#[]⟩ : ByteArray) 128).bind fun t222 => (some (!t222))) else (none))) else (none))) else (none))) else (none))) else (none))) else (none)) else (none)) else (none)) else (none)) else (none)) else (none)) else (none)) else (none)) else (none)) else (none)) else (none)) else (none)) else (none)) else (none)) else (none)) else (none)) else (none)) else (none)) else (none)) else (none)) else (none)) = some r := H
   have A25 := Aside0.mk A250
   clear A250
   by_cases c26 : 0 < (t182.size : Int)
   rotate_left
   ·rw [if_neg c26] at H
    exact absurd H (by simp)
 
   rw [if_pos c26] at H
   have c26b0 : decide (0 < (t182.size : Int)) = true := decide_eq_true c26
   have c26b1 : decide (0 < t182.size) = true := decide_eq_true (by omega)
   clear c26
   by_cases c28 : (bt t182 0) = 4
   rotate_left
   ·rw [if_neg c28] at H
    exact absurd H (by simp)
   rw [if_pos c28] at H
   have c28b0 : ((bt t182 0) == 4) = true := beq_iff_eq.mpr c28
   have c28b1 : ((bt t182 0) != 4) = false := bne_eq_false_iff_eq.mpr c28
   clear c28
   by_cases c29 : 2 < (t182.size : Int)
   rotate_left
   ·rw [if_neg c29] at H
    exact absurd H (by simp)
   rw [if_pos c29] at H
   have c29b0 : decide (2 < (t182.size : Int)) = true := decide_eq_true c29
   have c29b1 : decide (2 < t182.size) = true := decide_eq_true (by omega)
   clear c29
   by_cases c31 : (bt t182 2) = 3
   rotate_left
   ·rw [if_neg c31] at H
    exact absurd H (by simp)
   rw [if_pos c31] at H
   have c31b0 : ((bt t182 2) == 3) = true := beq_iff_eq.mpr c31
   have c31b1 : ((bt t182 2) != 3) = false := bne_eq_false_iff_eq.mpr c31
   clear c31
   by_cases c32 : 16 ≤ 20
   rotate_left
   ·rw [if_neg c32] at H
    exact absurd H (by simp)
   rw [if_pos c32] at H
   have c32b0 := eq_true c32
   have c32b1 : decide (16 ≤ 20) = true := decide_eq_true c32
   clear c32
   by_cases c33 : 20 ≤ (t182.size : Int)
   rotate_left
   ·rw [if_neg c33] at H
    exact absurd H (by simp)
   rw [if_pos c33] at H
   have c33b0 := eq_true c33
   have c33b1 : decide (20 ≤ (t182.size : Int)) = true := decide_eq_true c33
   clear c33
   obtain ⟨js34, hjs34⟩ : ∃ j_ : ByteArray, (t182.extract 16 20) = j_ := ⟨_, rfl⟩
   replace H : (if (js34).toList = ([97, 98, 99, 0] : List UInt8) then (if t185 = 4 then (if t187 = 3 then (if t189 = 3 then (if (t193 == 5 && (t194 == 0 && (t195.toList == (⟨#[97, 98, 99]⟩ : ByteArray).toList))) = true then (if t196 = 0 then (if t199 = 6 then (if (t200.size : Int) = 112 then (if t201 = 0 then (if t207 = 3 then (if (t210.length : Int) = 2 then (if 0 < (t210.length : Int) then (if ((rdOf ByteArray.empty t210 0).size : Int) = 112 then (if 1 < (t210.length : Int) then (if ((rdOf ByteArray.empty t210 1).size : Int) = 1 then ((chain_Pages.f 113 128).bind fun t215 => (if t215 = 2 then ((chain_Pages.f 112 128).bind fun t216 => (if t216 = 1 then ((chain_Pages.f 0 128).bind fun t217 => (if t217 = 0 then ((chain_Parts.f kj6 (⟨#[]⟩ : ByteArray) 128).bind fun t218 => (if (t218.length : Int) = 0 then ((chain_May.f 5 0 (⟨#[97, 98, 99]⟩ : ByteArray) 128).bind fun t221 => (if t221 = true then ((chain_May.f 0 0 (⟨#[]⟩ : ByteArray) 128).bind fun t222 => (some (!t222))) else (none))) else (none))) else (none))) else (none))) else (none))) else (none)) else (none)) else (none)) else (none)) else (none)) else (none)) else (none)) else (none)) else (none)) else (none)) else (none)) else (none)) else (none)) else (none)) else (none)) = some r := by first | (rw [hjs34] at H; exact H) | (simp only [hjs34] at H ⊢; exact H)
   (try rw [hjs34] at A20)
   (try rw [hjs34] at A21)
   (try rw [hjs34] at A22)
   (try rw [hjs34] at A23)
   (try rw [hjs34] at A24)
   (try rw [hjs34] at A25)
   by_cases c35 : (js34).toList = ([97, 98, 99, 0] : List UInt8)
   rotate_left
   ·rw [if_neg c35] at H
    exact absurd H (by simp)
   rw [if_pos c35] at H
   have c35b0 : ((js34).toList == ([97, 98, 99, 0] : List UInt8)) = true := beq_iff_eq.mpr c35
   have c35b1 : ((js34).toList != ([97, 98, 99, 0] : List UInt8)) = false := bne_eq_false_iff_eq.mpr c35
   clear c35
   by_cases c36 : t185 = 4
   rotate_left
   ·rw [if_neg c36] at H
    exact absurd H (by simp)
   rw [if_pos c36] at H
   have c36b0 : (t185 == 4) = true := beq_iff_eq.mpr c36
   have c36b1 : (t185 != 4) = false := bne_eq_false_iff_eq.mpr c36
   clear c36
   by_cases c37 : t187 = 3
   rotate_left
   ·rw [if_neg c37] at H
    exact absurd H (by simp)
   rw [if_pos c37] at H
   have c37b0 : (t187 == 3) = true := beq_iff_eq.mpr c37
   have c37b1 : (t187 != 3) = false := bne_eq_false_iff_eq.mpr c37
   clear c37
   by_cases c38 : t189 = 3
   rotate_left
   ·rw [if_neg c38] at H
    exact absurd H (by simp)
   rw [if_pos c38] at H
   have c38b0 : (t189 == 3) = true := beq_iff_eq.mpr c38
   have c38b1 : (t189 != 3) = false := bne_eq_false_iff_eq.mpr c38
   clear c38
   by_cases c39 : (t193 == 5 && (t194 == 0 && (t195.toList == (⟨#[97, 98, 99]⟩ : ByteArray).toList))) = true
   rotate_left
   ·rw [if_neg c39] at H
    exact absurd H (by simp)
   rw [if_pos c39] at H
   have c39b0 : (t193 == 5 && (t194 == 0 && (t195.toList == (⟨#[97, 98, 99]⟩ : ByteArray).toList))) = true := c39
   (try (have c39b8 : (t193 = 5 ∧ t194 = 0 ∧ t195.toList = [97, 98, 99]) = True := eq_true (by simpa using c39)))
   (try (have c39b1 : t193 = 5 && (t194 == 0 && (t195.toList == (⟨#[97, 98, 99]⟩ : ByteArray).toList)) := by simpa using c39))
   (try (have c39b2 : decide (t193 = 5 && (t194 == 0 && (t195.toList == (⟨#[97, 98, 99]⟩ : ByteArray).toList))) = true := by simpa using c39))
   (try (have c39b3 : (t193 == 5 && (t194 == 0 && (t195.toList == (⟨#[97, 98, 99]⟩ : ByteArray).toList))) = true := by simpa using c39))
   clear c39
   by_cases c40 : t196 = 0
   rotate_left
   ·rw [if_neg c40] at H
    exact absurd H (by simp)
   rw [if_pos c40] at H
   have c40b0 : (t196 == 0) = true := beq_iff_eq.mpr c40
   have c40b1 : (t196 != 0) = false := bne_eq_false_iff_eq.mpr c40
   clear c40
   by_cases c41 : t199 = 6
   rotate_left
   ·rw [if_neg c41] at H
    exact absurd H (by simp)
   rw [if_pos c41] at H
   have c41b0 : (t199 == 6) = true := beq_iff_eq.mpr c41
   have c41b1 : (t199 != 6) = false := bne_eq_false_iff_eq.mpr c41
   clear c41
   by_cases c42 : (t200.size : Int) = 112
   rotate_left
   ·rw [if_neg c42] at H
    exact absurd H (by simp)
   rw [if_pos c42] at H
   have c42b0 : ((t200.size : Int) == 112) = true := beq_iff_eq.mpr c42
   have c42b1 : ((t200.size : Int) != 112) = false := bne_eq_false_iff_eq.mpr c42
   clear c42
   by_cases c43 : t201 = 0
   rotate_left
   ·rw [if_neg c43] at H
    exact absurd H (by simp)
   rw [if_pos c43] at H
   have c43b0 : (t201 == 0) = true := beq_iff_eq.mpr c43
   have c43b1 : (t201 != 0) = false := bne_eq_false_iff_eq.mpr c43
   clear c43
   by_cases c44 : t207 = 3
   rotate_left
   ·rw [if_neg c44] at H
    exact absurd H (by simp)
   rw [if_pos c44] at H
   have c44b0 : (t207 == 3) = true := beq_iff_eq.mpr c44
   have c44b1 : (t207 != 3) = false := bne_eq_false_iff_eq.mpr c44
   clear c44
   by_cases c45 : (t210.length : Int) = 2
   rotate_left
   ·rw [if_neg c45] at H
    exact absurd H (by simp)
   rw [if_pos c45] at H
   have c45b0 : ((t210.length : Int) == 2) = true := beq_iff_eq.mpr c45
   have c45b1 : ((t210.length : Int) != 2) = false := bne_eq_false_iff_eq.mpr c45
   clear c45
   by_cases c46 : 0 < (t210.length : Int)
   rotate_left
   ·rw [if_neg c46] at H
    exact absurd H (by simp)
   rw [if_pos c46] at H
   have c46b0 : decide (0 < (t210.length : Int)) = true := decide_eq_true c46
   have c46b1 : decide (0 < t210.length) = true := decide_eq_true (by omega)
   clear c46
   by_cases c47 : ((rdOf ByteArray.empty t210 0).size : Int) = 112
   rotate_left
   ·rw [if_neg c47] at H
    exact absurd H (by simp)
   rw [if_pos c47] at H
   have c47b0 : (((rdOf ByteArray.empty t210 0).size : Int) == 112) = true := beq_iff_eq.mpr c47
   have c47b1 : (((rdOf ByteArray.empty t210 0).size : Int) != 112) = false := bne_eq_false_iff_eq.mpr c47
   clear c47
   by_cases c48 : 1 < (t210.length : Int)
   rotate_left
   ·rw [if_neg c48] at H
    exact absurd H (by simp)
   rw [if_pos c48] at H
   have c48b0 : decide (1 < (t210.length : Int)) = true := decide_eq_true c48
   have c48b1 : decide (1 < t210.length) = true := decide_eq_true (by omega)
   clear c48
   by_cases c49 : ((rdOf ByteArray.empty t210 1).size : Int) = 1
   rotate_left
   ·rw [if_neg c49] at H
    exact absurd H (by simp)
   rw [if_pos c49] at H
   have c49b0 : (((rdOf ByteArray.empty t210 1).size : Int) == 1) = true := beq_iff_eq.mpr c49
   have c49b1 : (((rdOf ByteArray.empty t210 1).size : Int) != 1) = false := bne_eq_false_iff_eq.mpr c49
   clear c49
   replace H := bM H
   obtain ⟨t215, A500, H⟩ := H
   replace H : (if t215 = 2 then ((chain_Pages.f 112 128).bind fun t216 => (if t216 = 1 then ((chain_Pages.f 0 128).bind fun t217 => (if t217 = 0 then ((chain_Parts.f kj6 (⟨#[]⟩ : ByteArray) 128).bind fun t218 => (if (t218.length : Int) = 0 then ((chain_May.f 5 0 (⟨#[97, 98, 99]⟩ : ByteArray) 128).bind fun t221 => (if t221 = true then ((chain_May.f 0 0 (⟨#[]⟩ : ByteArray) 128).bind fun t222 => (some (!t222))) else (none))) else (none))) else (none))) else (none))) else (none)) = some r := H
   have A50 := Aside0.mk A500
   clear A500
   by_cases c51 : t215 = 2
   rotate_left
   ·rw [if_neg c51] at H
    exact absurd H (by simp)
   rw [if_pos c51] at H
   have c51b0 : (t215 == 2) = true := beq_iff_eq.mpr c51
   have c51b1 : (t215 != 2) = false := bne_eq_false_iff_eq.mpr c51
   clear c51
   replace H := bM H
   obtain ⟨t216, A520, H⟩ := H
   replace H : (if t216 = 1 then ((chain_Pages.f 0 128).bind fun t217 => (if t217 = 0 then ((chain_Parts.f kj6 (⟨#[]⟩ : ByteArray) 128).bind fun t218 => (if (t218.length : Int) = 0 then ((chain_May.f 5 0 (⟨#[97, 98, 99]⟩ : ByteArray) 128).bind fun t221 => (if t221 = true then ((chain_May.f 0 0 (⟨#[]⟩ : ByteArray) 128).bind fun t222 => (some (!t222))) else (none))) else (none))) else (none))) else (none)) = some r := H
   have A52 := Aside0.mk A520
   clear A520
   by_cases c53 : t216 = 1
   rotate_left
   ·rw [if_neg c53] at H
    exact absurd H (by simp)
   rw [if_pos c53] at H
   have c53b0 : (t216 == 1) = true := beq_iff_eq.mpr c53
   have c53b1 : (t216 != 1) = false := bne_eq_false_iff_eq.mpr c53
   clear c53
   replace H := bM H
   obtain ⟨t217, A540, H⟩ := H
   replace H : (if t217 = 0 then ((chain_Parts.f kj6 (⟨#[]⟩ : ByteArray) 128).bind fun t218 => (if (t218.length : Int) = 0 then ((chain_May.f 5 0 (⟨#[97, 98, 99]⟩ : ByteArray) 128).bind fun t221 => (if t221 = true then ((chain_May.f 0 0 (⟨#[]⟩ : ByteArray) 128).bind fun t222 => (some (!t222))) else (none))) else (none))) else (none)) = some r := H
   have A54 := Aside0.mk A540
   clear A540
   by_cases c55 : t217 = 0
   rotate_left
   ·rw [if_neg c55] at H
    exact absurd H (by simp)
   rw [if_pos c55] at H
   have c55b0 : (t217 == 0) = true := beq_iff_eq.mpr c55
   have c55b1 : (t217 != 0) = false := bne_eq_false_iff_eq.mpr c55
   clear c55
   replace H := bM H
   obtain ⟨t218, A560, H⟩ := H
   replace H : (if (t218.length : Int) = 0 then ((chain_May.f 5 0 (⟨#[97, 98, 99]⟩ : ByteArray) 128).bind fun t221 => (if t221 = true then ((chain_May.f 0 0 (⟨#[]⟩ : ByteArray) 128).bind fun t222 => (some (!t222))) else (none))) else (none)) = some r := H
   have A56 := Aside0.mk A560
   clear A560
   by_cases c57 : (t218.length : Int) = 0
   rotate_left
   ·rw [if_neg c57] at H
    exact absurd H (by simp)
   rw [if_pos c57] at H
   have c57b0 : ((t218.length : Int) == 0) = true := beq_iff_eq.mpr c57
   have c57b1 : ((t218.length : Int) != 0) = false := bne_eq_false_iff_eq.mpr c57
   clear c57
   replace H := bM H
   obtain ⟨t221, A580, H⟩ := H
   replace H : (if t221 = true then ((chain_May.f 0 0 (⟨#[]⟩ : ByteArray) 128).bind fun t222 => (some (!t222))) else (none)) = some r := H
   have A58 := Aside0.mk A580
   clear A580
   by_cases c59 : t221 = true
   rotate_left
   ·replace c59 := Bool.eq_false_iff.mpr c59
    subst c59
    have H1 : (none) = some r := by rw [if_neg (show ¬ (false = true) by decide)] at H; exact H
    clear H
    have H := H1
    clear H1
    exact absurd H (by simp)
   subst c59
   have H1 : ((chain_May.f 0 0 (⟨#[]⟩ : ByteArray) 128).bind fun t222 => (some (!t222))) = some r := by rw [if_pos rfl] at H; exact H
   clear H
   have H := H1
   clear H1
   replace H := bM H
   obtain ⟨t222, A600, H⟩ := H
   replace H : (some (!t222)) = some r := H
   have A60 := Aside0.mk A600
   clear A600
   obtain rfl := Option.some.inj H
   go_wp2_with (first | ((with_reducible refine gate_callee (f := 11) rfl ?_); refine goesL_ (some 59) rfl rfl Tryd.func11 (by kernel_rfl) rfl #[.string t182] rfl aO ?_; (with_reducible refine (chain_Decode.calls kj6 t182 t193 t194 t195 t196 _ A20.out).mono ?_); rintro e w61 ⟨rfl, hb⟩; clear A20; refine ⟨_, rfl, ?_⟩; replace BK181 := as_ (blk_below (g := gb181) (o := .cells #[.int .i64 5, .int .i64 0, .string (⟨#[97, 98, 99]⟩ : ByteArray)] 23 (0, 0)) (bk BK181) hb); replace HB := as_ (below_step bA hb); (try clear hb); (try clear hb2); (try clear hk); (try clear hi)) | ((with_reducible refine gate_dst (N := 12) rfl ?_); (try (refine gate_guard (by rfl) ?_; dsimp only)); refine box_event ?hg (N := 12) ?hd (cs := #[.int .i64 0, .int .i64 0, .string (⟨#[]⟩ : ByteArray)]) (t := 23) ?hr ?_; (case hd => rfl); (case hg => rfl); (case hr => first | (go_simp; done) | (go_simp; rfl)); intro gb197 hg w62 hbox hb; have BK197 := as_ (hbox); have GW197 := gw hg bA; have GE197 := gw hg bA; have NB181_197 := as_ ((by rw [hg]; exact Nat.ne_of_lt (blk_lt (g := gb181) (o := .cells #[.int .i64 5, .int .i64 0, .string (⟨#[97, 98, 99]⟩ : ByteArray)] 23 (0, 0)) (bk BK181)) : gb181 ≠ gb197)); have NB197_181 := as_ ((by rw [hg]; exact Nat.ne_of_gt (blk_lt (g := gb181) (o := .cells #[.int .i64 5, .int .i64 0, .string (⟨#[97, 98, 99]⟩ : ByteArray)] 23 (0, 0)) (bk BK181)) : gb197 ≠ gb181)); replace BK181 := as_ (blk_below (g := gb181) (o := .cells #[.int .i64 5, .int .i64 0, .string (⟨#[97, 98, 99]⟩ : ByteArray)] 23 (0, 0)) (bk BK181) hb); replace HB := as_ (below_step bA hb); clear hb hbox hg; have hnb63 := NB197_181.out; have hnc63 := NB181_197.out; obtain ⟨hcz64_0, hcz64_1, hcz64_2⟩ := zc3 BK197; obtain ⟨hfz64_0, hfz64_1, hfz64_2⟩ := zf3 BK197) | ((with_reducible refine gate_callee (f := 11) rfl ?_); refine goesL_ (some 64) rfl rfl Tryd.func11 (by kernel_rfl) rfl #[.string t191] rfl aO ?_; (with_reducible refine (chain_Decode.calls kj6 t191 t198 t199 t200 t201 _ A21.out).mono ?_); rintro e w65 ⟨rfl, hb⟩; clear A21; refine ⟨_, rfl, ?_⟩; replace BK181 := as_ (blk_below (g := gb181) (o := .cells #[.int .i64 5, .int .i64 0, .string (⟨#[97, 98, 99]⟩ : ByteArray)] 23 (0, 0)) (by refine bx ?_; refine blk_far ?_ NB181_197.out _; refine bx ?_; refine blk_far ?_ NB181_197.out _; refine bx ?_; refine blk_far ?_ NB181_197.out _; refine bx ?_; exact BK181.out) hb); replace BK197 := as_ (blk_below (g := gb197) (o := .cells #[.int .i64 t193, .int .i64 t194, .string t195] 23 (0, 0)) (by refine bx ?_; refine blk_put (cs := #[.int .i64 t193, .int .i64 t194, .string (⟨#[]⟩ : ByteArray)]) ?_ 2 _ rfl; refine bx ?_; refine blk_put (cs := #[.int .i64 t193, .int .i64 0, .string (⟨#[]⟩ : ByteArray)]) ?_ 1 _ rfl; refine bx ?_; refine blk_put (cs := #[.int .i64 0, .int .i64 0, .string (⟨#[]⟩ : ByteArray)]) ?_ 0 _ rfl; refine bx ?_; exact BK197.out) hb); replace HB := as_ (below_step bA hb); (try clear hb); (try clear hb2); (try clear hk); (try clear hi)) | ((with_reducible refine gate_dst (N := 14) rfl ?_); (try (refine gate_guard (by rfl) ?_; dsimp only)); refine box_event ?hg (N := 14) ?hd (cs := #[.int .i64 0, .int .i64 0, .string (⟨#[]⟩ : ByteArray)]) (t := 23) ?hr ?_; (case hd => rfl); (case hg => rfl); (case hr => first | (go_simp; done) | (go_simp; rfl)); intro gb202 hg w66 hbox hb; have BK202 := as_ (hbox); have GW202 := gw hg bA; have GE202 := gw hg bA; have NB181_202 := as_ ((by rw [hg]; exact Nat.ne_of_lt (blk_lt (g := gb181) (o := .cells #[.int .i64 5, .int .i64 0, .string (⟨#[97, 98, 99]⟩ : ByteArray)] 23 (0, 0)) (bk BK181)) : gb181 ≠ gb202)); have NB202_181 := as_ ((by rw [hg]; exact Nat.ne_of_gt (blk_lt (g := gb181) (o := .cells #[.int .i64 5, .int .i64 0, .string (⟨#[97, 98, 99]⟩ : ByteArray)] 23 (0, 0)) (bk BK181)) : gb202 ≠ gb181)); have NB197_202 := nl BK197 hg; have NB202_197 := ng BK197 hg; replace BK181 := as_ (blk_below (g := gb181) (o := .cells #[.int .i64 5, .int .i64 0, .string (⟨#[97, 98, 99]⟩ : ByteArray)] 23 (0, 0)) (bk BK181) hb); replace BK197 := bb BK197 hb; replace HB := as_ (below_step bA hb); clear hb hbox hg; have hnb67 := NB202_181.out; have hnc67 := NB181_202.out; have hnb68 := NB202_197.out; have hnc68 := NB197_202.out; obtain ⟨hcz69_0, hcz69_1, hcz69_2⟩ := zc3 BK202; obtain ⟨hfz69_0, hfz69_1, hfz69_2⟩ := zf3 BK202) | ((with_reducible refine gate_callee (f := 16) rfl ?_); refine goesL_ (some 68) rfl rfl Tryd.func16 (by kernel_rfl) rfl #[.int .u8 0, .int .i64 128] rfl aO ?_; (with_reducible refine (withyref01_Repeat.calls kj6 0 128 t203 _ A22.out).mono ?_); rintro e w70 ⟨rfl, hb⟩; refine ⟨_, rfl, ?_⟩; replace BK181 := as_ (blk_below (g := gb181) (o := .cells #[.int .i64 5, .int .i64 0, .string (⟨#[97, 98, 99]⟩ : ByteArray)] 23 (0, 0)) (by refine bx ?_; refine blk_far ?_ NB181_202.out _; refine bx ?_; refine blk_far ?_ NB181_202.out _; refine bx ?_; refine blk_far ?_ NB181_202.out _; refine bx ?_; exact BK181.out) hb); replace BK197 := as_ (blk_below (g := gb197) (o := .cells #[.int .i64 t193, .int .i64 t194, .string t195] 23 (0, 0)) (by refine bx ?_; refine blk_far ?_ NB197_202.out _; refine bx ?_; refine blk_far ?_ NB197_202.out _; refine bx ?_; refine blk_far ?_ NB197_202.out _; refine bx ?_; exact BK197.out) hb); replace BK202 := as_ (blk_below (g := gb202) (o := .cells #[.int .i64 t198, .int .i64 t199, .string t200] 23 (0, 0)) (by refine bx ?_; refine blk_put (cs := #[.int .i64 t198, .int .i64 t199, .string (⟨#[]⟩ : ByteArray)]) ?_ 2 _ rfl; refine bx ?_; refine blk_put (cs := #[.int .i64 t198, .int .i64 0, .string (⟨#[]⟩ : ByteArray)]) ?_ 1 _ rfl; refine bx ?_; refine blk_put (cs := #[.int .i64 0, .int .i64 0, .string (⟨#[]⟩ : ByteArray)]) ?_ 0 _ rfl; refine bx ?_; exact BK202.out) hb); replace HB := as_ (below_step bA hb); (try clear hb); (try clear hb2); (try clear hk); (try clear hi)) | ((with_reducible refine gate_callee (f := 11) rfl ?_); refine goesL_ (some 69) rfl rfl Tryd.func11 (by kernel_rfl) rfl #[.string t203] rfl aO ?_; (with_reducible refine (chain_Decode.calls kj6 t203 t204 t205 t206 t207 _ A23.out).mono ?_); rintro e w71 ⟨rfl, hb⟩; clear A23; refine ⟨_, rfl, ?_⟩; replace BK181 := as_ (blk_below (g := gb181) (o := .cells #[.int .i64 5, .int .i64 0, .string (⟨#[97, 98, 99]⟩ : ByteArray)] 23 (0, 0)) (bk BK181) hb); replace BK197 := bb BK197 hb; replace BK202 := bb BK202 hb; replace HB := as_ (below_step bA hb); (try clear hb); (try clear hb2); (try clear hk); (try clear hi)) | ((with_reducible refine gate_dst (N := 16) rfl ?_); (try (refine gate_guard (by rfl) ?_; dsimp only)); refine box_event ?hg (N := 16) ?hd (cs := #[.int .i64 0, .int .i64 0, .string (⟨#[]⟩ : ByteArray)]) (t := 23) ?hr ?_; (case hd => rfl); (case hg => rfl); (case hr => first | (go_simp; done) | (go_simp; rfl)); intro gb208 hg w72 hbox hb; have BK208 := as_ (hbox); have GW208 := gw hg bA; have GE208 := gw hg bA; have NB181_208 := as_ ((by rw [hg]; exact Nat.ne_of_lt (blk_lt (g := gb181) (o := .cells #[.int .i64 5, .int .i64 0, .string (⟨#[97, 98, 99]⟩ : ByteArray)] 23 (0, 0)) (bk BK181)) : gb181 ≠ gb208)); have NB208_181 := as_ ((by rw [hg]; exact Nat.ne_of_gt (blk_lt (g := gb181) (o := .cells #[.int .i64 5, .int .i64 0, .string (⟨#[97, 98, 99]⟩ : ByteArray)] 23 (0, 0)) (bk BK181)) : gb208 ≠ gb181)); have NB197_208 := nl BK197 hg; have NB208_197 := ng BK197 hg; have NB202_208 := nl BK202 hg; have NB208_202 := ng BK202 hg; replace BK181 := as_ (blk_below (g := gb181) (o := .cells #[.int .i64 5, .int .i64 0, .string (⟨#[97, 98, 99]⟩ : ByteArray)] 23 (0, 0)) (bk BK181) hb); replace BK197 := bb BK197 hb; replace BK202 := bb BK202 hb; replace HB := as_ (below_step bA hb); clear hb hbox hg; have hnb73 := NB208_181.out; have hnc73 := NB181_208.out; have hnb74 := NB208_197.out; have hnc74 := NB197_208.out; have hnb75 := NB208_202.out; have hnc75 := NB202_208.out; obtain ⟨hcz76_0, hcz76_1, hcz76_2⟩ := zc3 BK208; obtain ⟨hfz76_0, hfz76_1, hfz76_2⟩ := zf3 BK208) | ((with_reducible refine gate_callee (f := 16) rfl ?_); refine goesL_ (some 72) rfl rfl Tryd.func16 (by kernel_rfl) rfl #[.int .u8 1, .int .i64 113] rfl aO ?_; (with_reducible refine (withyref01_Repeat.calls kj6 1 113 t209 _ A24.out).mono ?_); rintro e w77 ⟨rfl, hb⟩; refine ⟨_, rfl, ?_⟩; replace BK181 := as_ (blk_below (g := gb181) (o := .cells #[.int .i64 5, .int .i64 0, .string (⟨#[97, 98, 99]⟩ : ByteArray)] 23 (0, 0)) (by refine bx ?_; refine blk_far ?_ NB181_208.out _; refine bx ?_; refine blk_far ?_ NB181_208.out _; refine bx ?_; refine blk_far ?_ NB181_208.out _; refine bx ?_; exact BK181.out) hb); replace BK197 := as_ (blk_below (g := gb197) (o := .cells #[.int .i64 t193, .int .i64 t194, .string t195] 23 (0, 0)) (by refine bx ?_; refine blk_far ?_ NB197_208.out _; refine bx ?_; refine blk_far ?_ NB197_208.out _; refine bx ?_; refine blk_far ?_ NB197_208.out _; refine bx ?_; exact BK197.out) hb); replace BK202 := as_ (blk_below (g := gb202) (o := .cells #[.int .i64 t198, .int .i64 t199, .string t200] 23 (0, 0)) (by refine bx ?_; refine blk_far ?_ NB202_208.out _; refine bx ?_; refine blk_far ?_ NB202_208.out _; refine bx ?_; refine blk_far ?_ NB202_208.out _; refine bx ?_; exact BK202.out) hb); replace BK208 := as_ (blk_below (g := gb208) (o := .cells #[.int .i64 t204, .int .i64 t205, .string t206] 23 (0, 0)) (by refine bx ?_; refine blk_put (cs := #[.int .i64 t204, .int .i64 t205, .string (⟨#[]⟩ : ByteArray)]) ?_ 2 _ rfl; refine bx ?_; refine blk_put (cs := #[.int .i64 t204, .int .i64 0, .string (⟨#[]⟩ : ByteArray)]) ?_ 1 _ rfl; refine bx ?_; refine blk_put (cs := #[.int .i64 0, .int .i64 0, .string (⟨#[]⟩ : ByteArray)]) ?_ 0 _ rfl; refine bx ?_; exact BK208.out) hb); replace HB := as_ (below_step bA hb); (try clear hb); (try clear hb2); (try clear hk); (try clear hi)) | ((with_reducible refine gate_callee (f := 14) rfl ?_); refine goesL_ (some 73) rfl rfl Tryd.func14 (by kernel_rfl) rfl #[.string t209, .int .i64 128] rfl aO ?_; (with_reducible refine (chain_Parts.calls kj6 t209 128 t210 _ A25.out).mono ?_); rintro e w78 ⟨v211, rfl, ho0, hb⟩; refine ⟨_, rfl, ?_⟩; have HO212 := as_ (Kd.R_lower ho0 (below_size bA)); replace BK181 := as_ (blk_below (g := gb181) (o := .cells #[.int .i64 5, .int .i64 0, .string (⟨#[97, 98, 99]⟩ : ByteArray)] 23 (0, 0)) (bk BK181) hb); replace BK197 := bb BK197 hb; replace BK202 := bb BK202 hb; replace BK208 := bb BK208 hb; replace HB := as_ (below_step bA hb); (try clear hb); (try clear hb2); (try clear hk); (try clear hi); (try clear ho0); have p27 : 0 ≤ (0 : Int) := (by omega); have q27 : 0 < t182.size := (by have : (0 : Int) < (t182.size : Int) := of_decide_eq_true aM; omega); have hx27 : ∀ h : 0 < t182.size, ((t182[0]'h).toNat : Int) = bt t182 0 := bt_at t182 0; clear p27; have qi27 : (0 < (t182.size : Int)) = True := eq_true (of_decide_eq_true aM); replace q27 := eq_true q27; have p30 : 0 ≤ (2 : Int) := (by omega); have q30 : 2 < t182.size := (by have : (2 : Int) < (t182.size : Int) := of_decide_eq_true aM; omega); have hx30 : ∀ h : 2 < t182.size, ((t182[2]'h).toNat : Int) = bt t182 2 := bt_at t182 2; clear p30; have qi30 : (2 < (t182.size : Int)) = True := eq_true (of_decide_eq_true aM); replace q30 := eq_true q30; obtain ⟨hcz79_0, hcz79_1, hcz79_2⟩ := zc3 BK197; obtain ⟨hfz79_0, hfz79_1, hfz79_2⟩ := zf3 BK197; obtain ⟨hcz80_0, hcz80_1, hcz80_2⟩ := zc3 BK181; obtain ⟨hfz80_0, hfz80_1, hfz80_2⟩ := zf3 BK181; obtain ⟨hcz81_0, hcz81_1, hcz81_2⟩ := zc3 BK202; obtain ⟨hfz81_0, hfz81_1, hfz81_2⟩ := zf3 BK202; obtain ⟨Ao82, co82, eo82⟩ := Kd.R_slice HO212.out; subst eo82; have p213 : 0 ≤ (0 : Int) := (by omega); have q213 : 0 < (t210.length : Int) := of_decide_eq_true aM; obtain ⟨ad213, e213, hx213_0⟩ := Kd.at_string (Kd.R_reads' HO212.out).2.2 0 p213 q213; cases e213; have qi213 : (0 < t210.length) = True := eq_true (by omega); (try rw [show ((0 : Int)).toNat = 0 from rfl] at hx213_0); (try rw [Addr.add_zero'] at hx213_0); replace p213 := eq_true p213; replace q213 := eq_true q213; have p214 : 0 ≤ (1 : Int) := (by omega); have q214 : 1 < (t210.length : Int) := of_decide_eq_true aM; obtain ⟨ad214, e214, hx214_0⟩ := Kd.at_string (Kd.R_reads' HO212.out).2.2 1 p214 q214; obtain rfl : ad213 = ad214 := (by injection e214); (try simp only [show (1 : Int).toNat = 1 from rfl, Nat.reduceMul, Nat.reduceEqDiff, Go.Addr.add, ↓reduceIte] at hx214_0); have qi214 : (1 < t210.length) = True := eq_true (by omega); (try rw [show ((1 : Int)).toNat = 1 from rfl] at hx214_0); replace p214 := eq_true p214; replace q214 := eq_true q214) | (go_at_call 15; (with_reducible refine (chain_Pages.calls 113 128 t215 _ A50.out).mono ?_); rintro e w83 ⟨rfl, hb⟩; replace HO212 := as_ (Kd.R_below (by (with_reducible repeat (first | apply Kd.R_alloc | apply Kd.R_drewN | apply Kd.R_drew)); exact HO212.out) hb); replace BK181 := as_ (blk_below (g := gb181) (o := .cells #[.int .i64 5, .int .i64 0, .string (⟨#[97, 98, 99]⟩ : ByteArray)] 23 (0, 0)) (bk BK181) hb); replace BK197 := bb BK197 hb; replace BK202 := bb BK202 hb; replace BK208 := bb BK208 hb; replace HB := as_ (below_step bA hb); (try clear hb); (try clear hb2); (try clear hk); (try clear hi)) | (go_at_call 15; (with_reducible refine (chain_Pages.calls 112 128 t216 _ A52.out).mono ?_); rintro e w84 ⟨rfl, hb⟩; replace HO212 := as_ (Kd.R_below (by (with_reducible repeat (first | apply Kd.R_alloc | apply Kd.R_drewN | apply Kd.R_drew)); exact HO212.out) hb); replace BK181 := as_ (blk_below (g := gb181) (o := .cells #[.int .i64 5, .int .i64 0, .string (⟨#[97, 98, 99]⟩ : ByteArray)] 23 (0, 0)) (bk BK181) hb); replace BK197 := bb BK197 hb; replace BK202 := bb BK202 hb; replace BK208 := bb BK208 hb; replace HB := as_ (below_step bA hb); (try clear hb); (try clear hb2); (try clear hk); (try clear hi)) | (go_at_call 15; (with_reducible refine (chain_Pages.calls 0 128 t217 _ A54.out).mono ?_); rintro e w85 ⟨rfl, hb⟩; replace HO212 := as_ (Kd.R_below (by (with_reducible repeat (first | apply Kd.R_alloc | apply Kd.R_drewN | apply Kd.R_drew)); exact HO212.out) hb); replace BK181 := as_ (blk_below (g := gb181) (o := .cells #[.int .i64 5, .int .i64 0, .string (⟨#[97, 98, 99]⟩ : ByteArray)] 23 (0, 0)) (bk BK181) hb); replace BK197 := bb BK197 hb; replace BK202 := bb BK202 hb; replace BK208 := bb BK208 hb; replace HB := as_ (below_step bA hb); (try clear hb); (try clear hb2); (try clear hk); (try clear hi)) | (go_at_call 14; (with_reducible refine (chain_Parts.calls kj6 (⟨#[]⟩ : ByteArray) 128 t218 _ A56.out).mono ?_); rintro e w86 ⟨v219, rfl, ho0, hb⟩; have HO220 := as_ (Kd.R_lower (Kd.R_new' ho0 (Kd.R_lt (by (with_reducible repeat (first | apply Kd.R_alloc | apply Kd.R_drewN | apply Kd.R_drew)); exact HO212.out))) (below_size bA)); replace HO212 := as_ (Kd.R_elder' (by (with_reducible repeat (first | apply Kd.R_alloc | apply Kd.R_drewN | apply Kd.R_drew)); exact HO212.out) (Kd.R_base ho0) hb); replace BK181 := as_ (blk_below (g := gb181) (o := .cells #[.int .i64 5, .int .i64 0, .string (⟨#[97, 98, 99]⟩ : ByteArray)] 23 (0, 0)) (bk BK181) hb); replace BK197 := bb BK197 hb; replace BK202 := bb BK202 hb; replace BK208 := bb BK208 hb; replace HB := as_ (below_step bA hb); (try clear hb); (try clear hb2); (try clear hk); (try clear hi); (try clear ho0); obtain ⟨Ao87, co87, eo87⟩ := Kd.R_slice HO220.out; subst eo87; obtain ⟨hcz88_0, hcz88_1, hcz88_2⟩ := zc3 BK181; obtain ⟨hfz88_0, hfz88_1, hfz88_2⟩ := zf3 BK181) | (go_at_call 10; (with_reducible refine (chain_May.calls 5 0 (⟨#[97, 98, 99]⟩ : ByteArray) 128 true _ A58.out).mono ?_); rintro e w89 ⟨rfl, hb⟩; replace HO212 := as_ (Kd.R_below (by (with_reducible repeat (first | apply Kd.R_alloc | apply Kd.R_drewN | apply Kd.R_drew)); exact HO212.out) hb); replace HO220 := as_ (Kd.R_below (by (with_reducible repeat (first | apply Kd.R_alloc | apply Kd.R_drewN | apply Kd.R_drew)); exact HO220.out) hb); replace BK181 := as_ (blk_below (g := gb181) (o := .cells #[.int .i64 5, .int .i64 0, .string (⟨#[97, 98, 99]⟩ : ByteArray)] 23 (0, 0)) (bk BK181) hb); replace BK197 := bb BK197 hb; replace BK202 := bb BK202 hb; replace BK208 := bb BK208 hb; replace HB := as_ (below_step bA hb); (try clear hb); (try clear hb2); (try clear hk); (try clear hi)) | (go_at_call 10; (with_reducible refine (chain_May.calls 0 0 (⟨#[]⟩ : ByteArray) 128 t222 _ A60.out).mono ?_); rintro e w90 ⟨rfl, hb⟩; replace HO212 := as_ (Kd.R_below (by (with_reducible repeat (first | apply Kd.R_alloc | apply Kd.R_drewN | apply Kd.R_drew)); exact HO212.out) hb); replace HO220 := as_ (Kd.R_below (by (with_reducible repeat (first | apply Kd.R_alloc | apply Kd.R_drewN | apply Kd.R_drew)); exact HO220.out) hb); replace BK181 := as_ (blk_below (g := gb181) (o := .cells #[.int .i64 5, .int .i64 0, .string (⟨#[97, 98, 99]⟩ : ByteArray)] 23 (0, 0)) (bk BK181) hb); replace BK197 := bb BK197 hb; replace BK202 := bb BK202 hb; replace BK208 := bb BK208 hb; replace HB := as_ (below_step bA hb); (try clear hb); (try clear hb2); (try clear hk); (try clear hi)))
   go_ret
   exact ⟨by first | rfl | (simp [errW_none, errW_some] <;> rfl) | (simp only [← hjs34]; first | rfl | (simp [errW_none, errW_some] <;> rfl)) | (simp [*, errW_none, errW_some] <;> rfl), by repeat (first | (with_reducible first | exact HB.out | apply below_alloc | apply pw_below_drewN | apply below_drew1 | refine below_set ?_ GE181.out | refine below_set ?_ GE197.out | refine below_set ?_ GE202.out | refine below_set ?_ GE208.out) | exact HB.out)⟩
end Go.Proofs.YtggfnlnonigkiaaDoor.P
