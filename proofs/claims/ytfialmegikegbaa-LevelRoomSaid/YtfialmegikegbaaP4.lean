/- What is proved here: for functions of the Go text, a Lean function each, and that the call comes to just what it answers. Conditions: as each contract names them. Written by wip/tools/myprint.py, a driver of the print of the kit. -/
import Derived.Test.YtfialmegikegbaaP0
import Derived.Test.YtfialmegikegbaaP3
import Derived.Test.YtfialmegikegbaaWAbbr
namespace Go.Proofs.Ytfialmegikegbaa.P
open Go.RowKit Go.Proofs.YtfialmegikegbaaW.PrintWords Go.Proofs.YtfialmegikegbaaW.PrintLast Go.Proofs.YtfialmegikegbaaW.PrintMore Go.Proofs.YtfialmegikegbaaW.Abbr
-- PACKED
attribute [local go_sem] max2_int min2_int max_two min_two max_three min_three max_four min_four Go.Proofs.YtfialmegikegbaaLaws.str_leq Go.Proofs.YtfialmegikegbaaLaws.str_gtr Go.Proofs.YtfialmegikegbaaLaws.str_geq Go.Proofs.YtfialmegikegbaaLaws.max2_str Go.Proofs.YtfialmegikegbaaLaws.min2_str   -- for this text's walks alone
set_option linter.unusedVariables false
set_option linter.unusedSimpArgs false

/-! ### level_Group: function 16, by hand -/
section
open Go.Shelf Go.Proofs.YtfialmegikegbaaRange
attribute [local go_sem] Oper.semAt_some
mutual
def level_Group.l0 : Nat → List ByteArray → Int → List Int → Option (List Int)
 | 0, _, _, _ => none
 | k + 1, xs, p, acc => level_Group.l1 k xs p acc 1
def level_Group.l1 : Nat → List ByteArray → Int → List Int → Int → Option (List Int)
 | 0, _, _, _, _ => none
 | k + 1, xs, p, acc, n => if n ≤ (xs.length : Int) then (if n < 9223372036854775807 then ((level_fits.f k xs (n + 1) p).bind fun t => (if t = true then level_Group.l1 k xs p acc (n + 1) else level_Group.l2 k xs p acc n)) else none) else level_Group.l2 k xs p acc n
def level_Group.l2 : Nat → List ByteArray → Int → List Int → Int → Option (List Int)
 | 0, _, _, _, _ => none
 | k + 1, xs, p, acc, n => if acc.length < 17592186044416 then (if n > (xs.length : Int) then some (acc ++ [n]) else level_Group.l0 k (xs.drop n.toNat) p (acc ++ [n])) else none
end
def level_Group.f (k : Nat) (l0 : List ByteArray) (a1 : Int) : Option (List Int) := level_Group.l0 k l0 a1 []
theorem level_Group.mono_l : ∀ k, (∀ y0 y1 y2, LeO (level_Group.l0 k y0 y1 y2) (level_Group.l0 (k + 1) y0 y1 y2)) ∧ (∀ y0 y1 y2 y3, LeO (level_Group.l1 k y0 y1 y2 y3) (level_Group.l1 (k + 1) y0 y1 y2 y3)) ∧ (∀ y0 y1 y2 y3, LeO (level_Group.l2 k y0 y1 y2 y3) (level_Group.l2 (k + 1) y0 y1 y2 y3))
 | 0 => ⟨fun _ _ _ r h => by simp [level_Group.l0] at h, fun _ _ _ _ r h => by simp [level_Group.l1] at h, fun _ _ _ _ r h => by simp [level_Group.l2] at h⟩
 | k + 1 => by
  obtain ⟨ih0, ih1, ih2⟩ := level_Group.mono_l k
  refine ⟨fun y0 y1 y2 => ?_, fun y0 y1 y2 y3 => ?_, fun y0 y1 y2 y3 => ?_⟩
  all_goals
   first
   | unfold level_Group.l0
   | unfold level_Group.l1
   | unfold level_Group.l2
   repeat' first
   | (with_reducible exact ih0 _ _ _)
   | (with_reducible exact ih1 _ _ _ _)
   | (with_reducible exact ih2 _ _ _ _)
   | (with_reducible exact level_fits.mono _ _ _ _)
   | (with_reducible exact LeO.refl _)
   | (with_reducible exact LeO.none _)
   | (with_reducible refine LeO.ite ?_ ?_)
   | (with_reducible refine LeO.bind ?_ (fun _ => ?_))
theorem level_Group.mono : ∀ a0 a1 k, LeO (level_Group.f k a0 a1) (level_Group.f (k + 1) a0 a1) := fun a0 a1 k => (level_Group.mono_l k).1 _ _ _
/-- What lies in memory between two rounds: the boxes of the list made, of the texts left, of the page's size; the two blocks of the loop. -/
structure GroupAt (w : World) (rec : LoopRec) (p : Int) (wr : World) (A : Option Addr) (c : Nat) (xs : List ByteArray) (v : Value) (acc : List Int) : Prop where
 out : wr.heap[w.heap.size]? = some (.cells #[v] 27 (0, 0))
 own : wr.ownsRow (w.heap.size + 5) 3 1 v acc.length (acc.map (Value.int .i64))
 seps : wr.heap[w.heap.size + 1]? = some (.cells #[.slice A xs.length c] 22 (0, 0))
 pb : wr.heap[w.heap.size + 2]? = some (.cells #[.int .i64 p] 3 (0, 0))
 dd : wr.heap[w.heap.size + 3]? = some (.deferred (some []))
 lp : wr.heap[w.heap.size + 4]? = some (.loop (rec .ready none))
 rd : Kd.C Kd.string w A xs.length xs
 cap : xs.length ≤ c
 below : Below w.heap.size w wr
theorem row_below {W W1 : World} {b e s n : Nat} {v : Value} {xs : List Value} (h : W.ownsRow b e s v n xs) (hb : Below W.heap.size W W1) : W1.ownsRow b e s v n xs := by
 obtain ⟨h1, h2⟩ := h
 refine ⟨h1, ?_⟩
 rcases h2 with h2 | ⟨g, cap, cur, rfl, hg, hh, r⟩
 ·exact .inl h2
 ·exact .inr ⟨g, cap, cur, rfl, hg, blk_below hh hb, r⟩
theorem GroupAt.next {w : World} {rec : LoopRec} {p : Int} {wr wr' : World} {A : Option Addr} {c : Nat} {xs : List ByteArray} {v : Value} {acc : List Int} (h : GroupAt w rec p wr A c xs v acc) (hb : Below wr.heap.size wr wr') : GroupAt w rec p wr' A c xs v acc :=
 ⟨blk_below h.out hb, row_below h.own hb, blk_below h.seps hb, blk_below h.pb hb, blk_below h.dd hb, blk_below h.lp hb, h.rd, h.cap, below_step h.below hb⟩
theorem below_putObj {w W : World} {l : Nat} (o : Obj) (h : Below w.heap.size w W) (hl : w.heap.size ≤ l) : Below w.heap.size w (W.putObj l o) :=
 ⟨h.os, h.tape, h.output, by have := h.size; simpa using this, fun k hk => (World.putObj_heap_other (by omega)).trans (h.block k hk)⟩
theorem own_base5 {W : World} {b e s n : Nat} {v : Value} {xs : List Value} (h : W.ownsRow b e s v n xs) (k : Nat) (hk : k < b) : some k ≠ v.ownBlock := by
 rcases h.2 with ⟨rfl, _⟩ | ⟨g, cap, cur, rfl, hg, _⟩
 ·simp [Value.ownBlock]
 ·intro e'
  obtain rfl : k = g := by simpa [Value.ownBlock] using e'
  omega
def boxLen (B : Nat) (wr : World) : Nat := match wr.cell? ⟨B, 0, none⟩ with | some (.slice _ n _) => n | _ => 0
def intOf : Value → Nat | .int _ i => i.toNat | _ => 0
theorem GroupAt.boxLen {w : World} {rec : LoopRec} {p : Int} {wr : World} {A : Option Addr} {c : Nat} {xs : List ByteArray} {v : Value} {acc : List Int} (h : GroupAt w rec p wr A c xs v acc) : boxLen (w.heap.size + 1) wr = xs.length := by
 have := blk_cell h.seps 0
 simp at this
 simp [P.boxLen, this]
theorem level_pages.calls (A0 : Option Addr) (n0 c0 : Nat) (a1 : Int) (w : World) :
  Calls Try.prog 32 #[.slice A0 n0 c0, .int .i64 a1] w fun e w' => e = .returned (.func (.func 37) #[] #[.pointer (some ⟨w.heap.size, 0, none⟩), .pointer (some ⟨w.heap.size + 1, 0, none⟩)]) ∧ w' = (w.alloc (.cells #[.slice A0 n0 c0] 22)).alloc (.cells #[.int .i64 a1] 3) := by
 go_enter Try.func32, Try.ntmps32
 go_wp2
 go_ret
 exact ⟨rfl, rfl⟩
theorem Group_info : (Try.prog.info? 3).map (fun i => (i.zero, i.size, i.bytes)) = some (some (.int .i64 0), 1, 8) := by kernel_rfl
set_option maxHeartbeats 4000000 in
set_option maxRecDepth 100000 in
theorem level_Group.calls (k : Nat) (A0 : Option Addr) (c0 : Nat) (l0 : List ByteArray) (a1 : Int) (r : List Int) (w : World) (hr0 : Kd.C Kd.string w A0 l0.length l0) (hc0 : l0.length ≤ c0) (h : level_Group.f k l0 a1 = some r) :
  Calls Try.prog 16 #[.slice A0 l0.length c0, .int .i64 a1] w fun e w' => ∃ v0_ : Value, e = .returned (v0_) ∧ Kd.R (Kd.int .i64) 3 w' w.heap.size (fun _ => True) v0_ r ∧ Below w.heap.size w w' := by
 unfold level_Group.f at h
 refine (callsIn_wide (n := 9)).1 ?_
 refine callsIn_of_wp_marks Try.func16 rfl trivial ?_ rfl
 simp only [Try.ntmps16, List.size_toArray, List.length_cons, List.length_nil, Nat.reduceAdd, Nat.reduceSub, Array.replicate_succ, Array.replicate_zero, List.push_toArray, List.append_toArray, List.nil_append, List.cons_append]
 gi_wp2_with (refine ⟨trivial, ?_⟩; gi_at_call 32; refine (callsIn_wide.2 (level_pages.calls A0 _ c0 a1 _)).mono ?_; rintro e w' ⟨rfl, rfl⟩)
 obtain ⟨W0, hW0⟩ : ∃ W0, ((w.alloc (.cells #[.slice none 0 0] 27)).alloc (.cells #[.slice A0 l0.length c0] 22)).alloc (.cells #[.int .i64 a1] 3) = W0 := ⟨_, rfl⟩
 have hz : W0.heap.size = w.heap.size + 3 := by rw [← hW0]; simp
 have b0 : W0.heap[w.heap.size]? = some (.cells #[.slice none 0 0] 27 (0, 0)) := by rw [← hW0]; exact blk_alloc (blk_alloc (blk_new w _) _) _
 have b1 : W0.heap[w.heap.size + 1]? = some (.cells #[.slice A0 l0.length c0] 22 (0, 0)) := by
  rw [← hW0]; have := blk_new (w.alloc (.cells #[.slice none 0 0] 27)) (.cells #[.slice A0 l0.length c0] 22); rw [World.size_alloc] at this; exact blk_alloc this _
 have b2 : W0.heap[w.heap.size + 2]? = some (.cells #[.int .i64 a1] 3 (0, 0)) := by
  rw [← hW0]; have := blk_new ((w.alloc (.cells #[.slice none 0 0] 27)).alloc (.cells #[.slice A0 l0.length c0] 22)) (.cells #[.int .i64 a1] 3); rw [World.size_alloc, World.size_alloc] at this; exact this
 have bel0 : Below w.heap.size w W0 := by rw [← hW0]; exact below_alloc (below_alloc (below_alloc (Below.refl _ _) _) _) _
 (try simp only [World.size_alloc])
 rw [hW0]
 clear hW0
 refine rangeFunc_walk (gf := 37) (lb := #[.pointer (some ⟨w.heap.size + 1, 0, none⟩), .pointer (some ⟨w.heap.size + 2, 0, none⟩)]) rfl (by decide) rfl trivial (enters_of Try.func37 (by kernel_rfl) rfl) ?_
 intro rec hY
 rw [hz] at hY ⊢
 have hG0 : GroupAt w rec a1 ((W0.alloc (.deferred (some []))).alloc (.loop (rec .ready none))) A0 c0 l0 (.slice none 0 0) [] := by
  have n1 := blk_new W0 (.deferred (some []))
  have n2 := blk_new (W0.alloc (.deferred (some []))) (.loop (rec .ready none))
  rw [World.size_alloc, hz] at n2
  rw [hz] at n1
  exact ⟨blk_alloc (blk_alloc b0 _) _, World.ownsRow_nil _ _ _ _, blk_alloc (blk_alloc b1 _) _, blk_alloc (blk_alloc b2 _) _, blk_alloc n1 _, n2, hr0, hc0, below_alloc (below_alloc bel0 _) _⟩
 clear b0 b1 b2 bel0
 generalize (W0.alloc (.deferred (some []))).alloc (.loop (rec .ready none)) = W1 at hG0 ⊢
 have hYield : ∀ (wr : World) (A : Option Addr) (c : Nat) (xs : List ByteArray) (v : Value) (acc : List Int) (n : Int) (s : Value), GroupAt w rec a1 wr A c xs v acc → acc.length < 17592186044416 →
   YieldAt Fence.wide 7 Try.prog (w.heap.size + 4) #[.int .i64 n, s] wr fun e W' => e = .returned (.bool true) ∧ ∃ v', GroupAt w rec a1 W' A c xs v' (acc ++ [n]) := by
  intro wr A c xs v acc n s hG hlen
  refine hY wr _ _ rfl hG.lp ?_
  obtain ⟨i0, hi, hz0, hz1, hz2⟩ := info_parts Group_info
  simp only [List.zip_toArray, List.zip_cons_cons, List.zip_nil_right, List.zip_nil_left, List.foldl_toArray', List.foldl_cons, List.foldl_nil, List.setIfInBounds_toArray, List.set_cons_zero, List.set_cons_succ, List.size_toArray, List.length_cons, List.length_nil, Nat.reduceAdd]
  gi_wp2
  refine ⟨hG.lp, ?_⟩
  obtain ⟨W2, hW2⟩ : ∃ W2, wr.putObj (w.heap.size + 3 + 1) (.loop (rec .busy none)) = W2 := ⟨_, rfl⟩
  have o2 : ∀ k, k ≠ w.heap.size + 4 → W2.heap[k]? = wr.heap[k]? := fun k hk => by rw [← hW2]; exact World.putObj_heap_other (by omega)
  have l2 : W2.heap[w.heap.size + 4]? = some (.loop (rec .busy none)) := by rw [← hW2]; exact World.putObj_heap_same (blk_lt hG.lp)
  have row2 : W2.ownsRow (w.heap.size + 5) 3 1 v acc.length (acc.map (Value.int .i64)) := by rw [← hW2]; exact ownsRow_putObj hG.own _ hG.lp rfl
  have box2 : Boxed W2 w.heap.size 27 v := (o2 _ (by omega)).trans hG.out
  have bel2 : Below w.heap.size w W2 := by rw [← hW2]; exact below_putObj _ hG.below (by omega)
  have sz2 : w.heap.size + 5 ≤ W2.heap.size := by have := blk_lt l2; omega
  rw [hW2]
  have hc := box2.cell
  gi_wp2_with (gi_at_builtin; refine wpListIn_append_own _ rfl _ _ 27 rfl (w.heap.size + 5) 3 i0 (.int .i64 0) 1 8 Try.underlying27 hi hz0 hz1 hz2 rfl (by decide) _ _ _ rfl (row2.alloc _) ⟨W2.heap.size, 0, none⟩ 1 1 [.int .i64 n] rfl rfl (cell_one_new _ _ _) (by simp [Value.oneCell']) (by show acc.length + 1 ≤ 9223372036854775807; omega) (by omega) (by simp; omega) ?_; intro v' w1 hown' hgrow _; obtain ⟨g', cap', rfl⟩ := ownsRow_succ hown'; obtain ⟨hv1, hv2, hr2, hk2, hb2⟩ := box2.appended (by decide) (own_less row2 (by omega : w.heap.size ≤ w.heap.size + 5)) (by omega) (Nat.le_refl _) (own_less hown' (by omega : w.heap.size ≤ w.heap.size + 5)) hgrow; have hr5 := hown'.kept (grownBy_setCell' w1 w.heap.size (.slice (some ⟨g', 0, none⟩) (acc.length + 1) cap')) (.inr (hv1.not_row (by decide) hown').symm); have hc1 := hv1.cell; have hf1 := hv1.frozen)
  have e3 := hk2.same _ _ l2 rfl
  have lt3 := blk_lt e3
  have o3 : ∀ k, k < w.heap.size + 4 → k ≠ w.heap.size → (w1.setCell ⟨w.heap.size, 0, none⟩ (.slice (some ⟨g', 0, none⟩) (acc.length + 1) cap')).heap[k]? = wr.heap[k]? := fun k h1 h2 => by
   refine ((Below.heap_setCell _ _ _ k (by intro e; exact h2 e)).trans (hgrow.block k (by simp; omega) (own_base5 row2 k (by omega)))).trans ?_
   exact (Below.heap_alloc W2 (.cells #[.int .i64 n] 3) k (by omega)).trans (o2 k (by omega))
  refine ⟨e3, rfl, .slice (some ⟨g', 0, none⟩) (acc.length + 1) cap', ?_⟩
  have q4 : ∀ k, k ≠ w.heap.size + 4 → ((w1.setCell ⟨w.heap.size, 0, none⟩ (.slice (some ⟨g', 0, none⟩) (acc.length + 1) cap')).putObj (w.heap.size + 3 + 1) (.loop (rec .ready none))).heap[k]? = (w1.setCell ⟨w.heap.size, 0, none⟩ (.slice (some ⟨g', 0, none⟩) (acc.length + 1) cap')).heap[k]? := fun k hk => World.putObj_heap_other (by omega)
  refine ⟨(q4 _ (by omega)).trans hv2, ?_, (q4 _ (by omega)).trans ((o3 _ (by omega) (by omega)).trans hG.seps), (q4 _ (by omega)).trans ((o3 _ (by omega) (by omega)).trans hG.pb), (q4 _ (by omega)).trans ((o3 _ (by omega) (by omega)).trans hG.dd), World.putObj_heap_same lt3, hG.rd, hG.cap, below_putObj _ (bel2.trans hb2) (by omega)⟩
  have hr6 := ownsRow_putObj hr5 (.loop (rec .ready none)) e3 rfl
  simpa using hr6
 -- WALK
 refine callsIn_of_wp Try.func37 rfl trivial ?_ rfl
 simp only [Try.ntmps37, List.size_toArray, List.length_cons, List.length_nil, Nat.reduceAdd, Nat.reduceSub, Array.replicate_succ, Array.replicate_zero, List.push_toArray, List.append_toArray, List.nil_append, List.cons_append]
 gi_wp2
 gi_loopw [4] (fun v wr => ∃ (kq : Nat) (A : Option Addr) (c : Nat) (xs : List ByteArray) (acc : List Int) (vo : Value), GroupAt w rec a1 wr A c xs vo acc ∧ level_Group.l0 kq xs a1 acc = some r) (fun _ wr => boxLen (w.heap.size + 1) wr)
 case atStart => exact ⟨k, A0, c0, l0, [], _, hG0, h⟩
 case round =>
  clear hG0 h hr0 hc0
  obtain ⟨kq, A, c, xs, acc, vo, hG, hl0⟩ := hrel
  cases kq with
  | zero => simp [level_Group.l0] at hl0
  | succ kq =>
   simp only [level_Group.l0] at hl0
   have hm0 := hG.boxLen
   gi_wp2
   gi_loopw [4] (fun v wr => ∃ (kq : Nat) (n : Int) (vo : Value), v = .int .i64 n ∧ 1 ≤ n ∧ n ≤ (xs.length : Int) + 1 ∧ GroupAt w rec a1 wr A c xs vo acc ∧ level_Group.l1 kq xs a1 acc n = some r) (fun v _ => xs.length + 1 - intOf v)
   case atStart => exact ⟨kq, 1, vo, rfl, by omega, by omega, hG, hl0⟩
   case round =>
    clear hG hl0 kq vo
    obtain ⟨kq, n, vo, rfl, hn1, hn2, hG, hl1⟩ := hrel
    have hcap := hG.rd.2.1
    have hc1 := blk_cell hG.seps 0
    have hc2 := blk_cell hG.pb 0
    have hf1 := blk_frozen hG.seps 0
    cases kq with
    | zero => simp [level_Group.l1] at hl1
    | succ kq =>
     simp only [level_Group.l1] at hl1
     by_cases d1 : n ≤ (xs.length : Int)
     rotate_left
     ·rw [if_neg d1] at hl1
      cases kq with
      | zero => simp [level_Group.l2] at hl1
      | succ kq =>
       simp only [level_Group.l2] at hl1
       by_cases d3 : acc.length < 17592186044416
       rotate_left
       ·rw [if_neg d3] at hl1; cases hl1
       rw [if_pos d3, if_pos (by omega)] at hl1
       obtain rfl := Option.some.inj hl1
       obtain ⟨i09, hi09, _, hsz9, _⟩ := info_parts info9
       obtain ⟨hcut, _, _⟩ := print_take_of (P := Try.prog) Value.string (⟨#[]⟩ : ByteArray) 22 9 .i64 Try.underlying22 hi09 hsz9 A c xs (n - 1) (by omega) (by omega) hG.cap
       generalize (xs.take (n - 1).toNat).length = ln at hcut
       obtain ⟨fn_, tm_, as_, bd_, hy, hR⟩ := hYield _ A c xs vo acc n (.slice A ln c) hG d3
       have dd1 : decide (n ≤ (xs.length : Int)) = false := decide_eq_false d1
       have dd2 : decide ((xs.length : Int) < n) = true := decide_eq_true (by omega)
       have wn1 : wrap64 (n - 1) = n - 1 := by unfold wrap64; omega
       clear hi09 hsz9 hcap d3 hm0 hYield hY hz
       gi_wp2_with ((with_reducible refine And.intro (a := Fence.fn Fence.wide 38) ?_ ?_); exact trivial)
       refine hR.mono ?_
       rintro e W3 ⟨rfl, v3, hG3⟩
       have hc5 := blk_cell hG3.seps 0
       clear hy hR
       gi_wp2
       refine bodyPost_ret (results_none rfl _ _ _) rfl ?_
       refine ⟨⟨_, rfl⟩, .inl ⟨hG3.lp, ?_⟩⟩
       have o4 : ∀ k, k ≠ w.heap.size + 4 → (W3.putObj (w.heap.size + 3 + 1) (.loop (rec .exhausted none))).heap[k]? = W3.heap[k]? := fun k hk => World.putObj_heap_other (by omega)
       have out4 := (o4 _ (by omega)).trans hG3.out
       have dd4 := (o4 _ (by omega)).trans hG3.dd
       have row4 := ownsRow_putObj hG3.own (.loop (rec .exhausted none)) hG3.lp rfl
       have bel4 := below_putObj (l := w.heap.size + 3 + 1) (.loop (rec .exhausted none)) hG3.below (by omega)
       generalize W3.putObj (w.heap.size + 3 + 1) (.loop (rec .exhausted none)) = W4 at out4 dd4 row4 bel4 ⊢
       have hc6 := blk_cell out4 0
       clear hc5 hG3 hG hc1 hc2 hf1 o4 hcut
       gi_wp2
       refine ⟨by simp, .inl ⟨_, _, rfl, run_takeDeferred dd4, ?_⟩⟩
       have row5 := ownsRow_putObj row4 (.deferred none) dd4 rfl
       have bel5 := below_putObj (l := w.heap.size + 3) (.deferred none) bel4 (by omega)
       refine ⟨_, results_tmp rfl _ _ _, v3, rfl, ?_, bel5⟩
       exact Kd.R_of_own (h1 := fun _ => rfl) (own_less (base := w.heap.size) (by simpa [encs] using row5) (by omega)) (fun _ _ => trivial)
     rw [if_pos d1] at hl1
     have dmx : n < 9223372036854775807 := by
      by_cases q : n < 9223372036854775807
      rotate_left
      ·rw [if_neg q] at hl1; cases hl1
      exact q
     rw [if_pos dmx] at hl1
     obtain ⟨t, ht, hl1⟩ := bM hl1
     obtain ⟨kq0, hkq0⟩ : ∃ kq0, kq0 = kq := ⟨_, rfl⟩
     rw [← hkq0] at ht
     have dd1 : decide (n ≤ (xs.length : Int)) = true := decide_eq_true d1
     have wn : wrap64 (n + 1) = n + 1 := by unfold wrap64; omega
     cases t with
     | true =>
      simp only [if_true] at hl1
      gi_wp2_with ((with_reducible refine And.intro (a := Fence.fn Fence.wide 38) ?_ ?_); exact trivial; gi_at_call 38; refine (callsIn_wide.2 (level_fits.calls kq0 A c xs (n + 1) a1 true _ (Kd.C_below hG.rd hG.below) hG.cap ht)).mono ?_; rintro e w' ⟨rfl, hb⟩; replace hG := hG.next hb; clear hb)
      go_roundw
      case rel => exact ⟨kq, n + 1, vo, rfl, by omega, by omega, hG, hl1⟩
      case measure => simp only [intOf]; omega
     | false =>
      simp only [if_false, Bool.false_eq_true] at hl1
      cases kq with
      | zero => simp [level_Group.l2] at hl1
      | succ kq =>
       simp only [level_Group.l2] at hl1
       by_cases d3 : acc.length < 17592186044416
       rotate_left
       ·rw [if_neg d3] at hl1; cases hl1
       rw [if_pos d3, if_neg (by omega)] at hl1
       obtain ⟨i09, hi09, _, hsz9, _⟩ := info_parts info9
       obtain ⟨hcut, _, _⟩ := print_take_of (P := Try.prog) Value.string (⟨#[]⟩ : ByteArray) 22 9 .i64 Try.underlying22 hi09 hsz9 A c xs (n - 1) (by omega) (by omega) hG.cap
       generalize (xs.take (n - 1).toNat).length = ln at hcut
       obtain ⟨A', hcut2, hA2, hC2⟩ := print_drop_of (P := Try.prog) Value.string (⟨#[]⟩ : ByteArray) 22 9 .i64 Try.underlying22 hi09 hsz9 A c xs n (by omega) (by omega) hG.cap
       have hR2 : Kd.C Kd.string w A' (xs.drop n.toNat).length (xs.drop n.toNat) := Kd.C_of_reads (h1 := fun _ => rfl) (hA2 _ (Kd.reads_of_C hG.rd))
       have hlen2 : (xs.drop n.toNat).length < xs.length := by rw [List.length_drop]; omega
       clear hA2 hi09 hsz9
       generalize c - n.toNat = c2 at hcut2 hC2
       generalize xs.drop n.toNat = ys at hcut2 hR2 hC2 hl1 hlen2
       gi_wp2_with ((with_reducible refine And.intro (a := Fence.fn Fence.wide 38) ?_ ?_); exact trivial; gi_at_call 38; refine (callsIn_wide.2 (level_fits.calls kq0 A c xs (n + 1) a1 false _ (Kd.C_below hG.rd hG.below) hG.cap ht)).mono ?_; rintro e w' ⟨rfl, hb⟩; replace hG := hG.next hb; clear hb; have hc3 := blk_cell hG.seps 0; have hf3 := blk_frozen hG.seps 0; obtain ⟨fn_, tm_, as_, bd_, hy, hR⟩ := hYield _ A c xs vo acc n (.slice A ln c) hG d3)
       refine hR.mono ?_
       rintro e W3 ⟨rfl, v3, hG3⟩
       have hc5 := blk_cell hG3.seps 0
       have hf5 := blk_frozen hG3.seps 0
       have d4 : decide ((xs.length : Int) < n) = false := decide_eq_false (by omega)
       clear hy hR hc3 hf3 hc1 hc2 hf1
       gi_wp2
       go_roundw
       case rel =>
        refine ⟨kq, A', c2, ys, acc ++ [n], v3, ⟨(Below.heap_setCell _ _ _ _ (by simp)).trans hG3.out, hG3.own.kept (grownBy_setCell' W3 _ _) (.inr (own_base5 hG3.own _ (by omega)).symm), ?_, (Below.heap_setCell _ _ _ _ (by simp)).trans hG3.pb, (Below.heap_setCell _ _ _ _ (by simp)).trans hG3.dd, (Below.heap_setCell _ _ _ _ (by simp)).trans hG3.lp, hR2, hC2, hG3.below.setCell (by simp) _⟩, hl1⟩
        exact Boxed.set (t := 22) _ hG3.seps
       case measure =>
        rw [hm0]
        simp [boxLen, World.cell?, show (W3.setCell ⟨w.heap.size + 1, 0, none⟩ (.slice A' ys.length c2)).heap[w.heap.size + 1]? = _ from Boxed.set (t := 22) _ hG3.seps]
        exact hlen2
end


/-! ### disk_sizes: function 35 -/
def disk_sizes.f  : Option (Int × Int × Int × Int) := some (128, 256, 512, 1024)
set_option maxHeartbeats 8000000 in
set_option maxRecDepth 100000 in
theorem disk_sizes.calls  (r1 : Int) (r2 : Int) (r3 : Int) (r4 : Int) (w : World) (h : disk_sizes.f  = some (r1, r2, r3, r4)) :
  Calls Try.prog 35 #[] w fun e w' => e = .returned (.agg #[.int .i64 r1, .int .i64 r2, .int .i64 r3, .int .i64 r4]) ∧ Below w.heap.size w w' := by
 have hu53 := Try.underlying53
 have HB := as_ (Below.refl w.heap.size w)
 have H : (some (128, 256, 512, 1024)) = some (r1, r2, r3, r4) := h
 clear h
 simp only [Option.some.injEq, Prod.mk.injEq] at H
 obtain ⟨rfl, rfl, rfl, rfl⟩ := H
 go_enter Try.func35, Try.ntmps35
 go_wp2_with (first | ((with_reducible refine gate_dst (N := 0) rfl ?_); refine box_event (by rfl) (N := 0) (by rfl) (cs := #[.int .i64 0, .int .i64 0, .int .i64 0, .int .i64 0]) (t := 53) gS ?_; intro gb202 hg w1 hbox hb; have BK202 := as_ (hbox); have GW202 := gw hg bA; have GE202 := gw hg bA; replace HB := as_ (below_step bA hb); clear hb hbox hg; obtain ⟨hcz2_0, hcz2_1, hcz2_2, hcz2_3⟩ := zc4 BK202; obtain ⟨hfz2_0, hfz2_1, hfz2_2, hfz2_3⟩ := zf4 BK202))
 refine bodyPost_ret (results_cell_row rfl _ _ gb202 53 #[.int .i64 128, .int .i64 256, .int .i64 512, .int .i64 1024] (0, 0) _ rfl (by refine bx ?_; refine blk_put (cs := #[.int .i64 128, .int .i64 256, .int .i64 512, .int .i64 0]) ?_ 3 _ rfl; refine bx ?_; refine blk_put (cs := #[.int .i64 128, .int .i64 256, .int .i64 0, .int .i64 0]) ?_ 2 _ rfl; refine bx ?_; refine blk_put (cs := #[.int .i64 128, .int .i64 0, .int .i64 0, .int .i64 0]) ?_ 1 _ rfl; refine bx ?_; refine blk_put (cs := #[.int .i64 0, .int .i64 0, .int .i64 0, .int .i64 0]) ?_ 0 _ rfl; refine bx ?_; exact BK202.out) Try.underlying53 rfl (by kernel_rfl)) rfl ?_
 exact ⟨eW, by repeat (first | (with_reducible first | exact HB.out | apply below_alloc | apply pw_below_drewN | apply below_drew1 | refine below_set ?_ GE202.out) | exact HB.out)⟩

/-! ### disk_Size: function 29, by hand -/
def disk_Size.f (a0 : Int) : Option (Bool) := some (decide (a0 = 128) || decide (a0 = 256) || decide (a0 = 512) || decide (a0 = 1024))
theorem disk_index (W : World) (i : Int) (v : Int) (h : (i = 0 ∧ v = 128) ∨ (i = 1 ∧ v = 256) ∨ (i = 2 ∧ v = 512) ∨ (i = 3 ∧ v = 1024)) : (Instr.index 53 (.agg #[.int .i64 128, .int .i64 256, .int .i64 512, .int .i64 1024]) (.int .i64 i)).run Try.prog W = .ok (.int .i64 v) W := by
 have hu : Try.prog.underlying 53 = some (.array 4 3) := by kernel_rfl
 obtain ⟨i0, hi, hz, hz1, _⟩ := info_parts (show (Try.prog.info? 3).map (fun i => (i.zero, i.size, i.bytes)) = some (some (.int .i64 0), 1, 8) by kernel_rfl)
 rcases h with ⟨rfl, rfl⟩ | ⟨rfl, rfl⟩ | ⟨rfl, rfl⟩ | ⟨rfl, rfl⟩ <;> simp [Instr.index, run_underlying hu, asIntOf, sizeOf, typeInfo, hi, hz1, go_sem]
set_option maxHeartbeats 4000000 in
set_option maxRecDepth 100000 in
theorem disk_Size.calls (a0 : Int) (r : Bool) (w : World) (h : disk_Size.f a0 = some r) :
  Calls Try.prog 29 #[.int .i64 a0] w fun e w' => e = .returned (.bool r) ∧ Below w.heap.size w w' := by
 have H := Option.some.inj h
 clear h
 go_enter Try.func29, Try.ntmps29
 go_wp2_with fail
 refine (disk_sizes.calls 128 256 512 1024 _ rfl).mono ?_
 rintro e w1 ⟨rfl, hb⟩
 have HB1 := as_ (below_step (by repeat (first | exact Below.refl _ _ | apply below_alloc | apply pw_below_drewN | apply below_drew1)) hb : Below w.heap.size w w1)
 clear hb
 have H0 : Aside0 (((0 : Int) = 0 ∧ r = (decide (a0 = 128) || decide (a0 = 256) || decide (a0 = 512) || decide (a0 = 1024)))) := ⟨rfl, H.symm⟩
 go_wp2
 go_loopg [6] 5 (fun kq v6 w' => ∃ x6 : Int, v6 = .int .i64 x6 ∧ Aside0 ((x6 = 0 ∧ kq = 5 ∧ r = (decide (a0 = 128) || decide (a0 = 256) || decide (a0 = 512) || decide (a0 = 1024))) ∨ (x6 = 1 ∧ kq = 4 ∧ r = (decide (a0 = 256) || decide (a0 = 512) || decide (a0 = 1024))) ∨ (x6 = 2 ∧ kq = 3 ∧ r = (decide (a0 = 512) || decide (a0 = 1024))) ∨ (x6 = 3 ∧ kq = 2 ∧ r = decide (a0 = 1024)) ∨ (x6 = 4 ∧ kq = 1 ∧ r = false)) ∧ Aside0 (Below w.heap.size w w'))
 case atStart => exact ⟨0, rfl, ⟨.inl ⟨rfl, rfl, H.symm⟩⟩, ⟨HB1.out⟩⟩
 case round =>
  obtain ⟨x6, rfl, HX, HB⟩ := hrel
  clear H0 H
  rcases HX.out with ⟨rfl, rfl, hr⟩ | ⟨rfl, rfl, hr⟩ | ⟨rfl, rfl, hr⟩ | ⟨rfl, rfl, hr⟩ | ⟨rfl, rfl, hr⟩
  ·have HR := Aside0.mk hr
   clear hr HX
   have hix : ∀ W : World, (Instr.index 53 (.agg #[.int .i64 128, .int .i64 256, .int .i64 512, .int .i64 1024]) (.int .i64 0)).run Try.prog W = .ok (.int .i64 128) W := fun W => disk_index W _ _ (by omega)
   by_cases c : a0 = 128
   ·subst c
    go_wp2
    go_ret
    exact ⟨by rw [HR.out]; rfl, by repeat (first | exact HB.out | apply below_alloc | apply pw_below_drewN | apply below_drew1)⟩
   have c0 : ((128 : Int) == a0) = false := beq_eq_false_iff_ne.mpr (fun h => c h.symm)
   have c1 : decide ((128 : Int) = a0) = false := decide_eq_false (fun h => c h.symm)
   go_wp2
   go_roundg 4
   case measure => omega
   case rel => exact ⟨1, rfl, ⟨.inr (.inl ⟨rfl, rfl, by rw [HR.out]; simp [c]⟩)⟩, ⟨by repeat (first | exact HB.out | apply below_alloc | apply pw_below_drewN | apply below_drew1)⟩⟩
  ·have HR := Aside0.mk hr
   clear hr HX
   have hix : ∀ W : World, (Instr.index 53 (.agg #[.int .i64 128, .int .i64 256, .int .i64 512, .int .i64 1024]) (.int .i64 1)).run Try.prog W = .ok (.int .i64 256) W := fun W => disk_index W _ _ (by omega)
   by_cases c : a0 = 256
   ·subst c
    go_wp2
    go_ret
    exact ⟨by rw [HR.out]; rfl, by repeat (first | exact HB.out | apply below_alloc | apply pw_below_drewN | apply below_drew1)⟩
   have c0 : ((256 : Int) == a0) = false := beq_eq_false_iff_ne.mpr (fun h => c h.symm)
   have c1 : decide ((256 : Int) = a0) = false := decide_eq_false (fun h => c h.symm)
   go_wp2
   go_roundg 3
   case measure => omega
   case rel => exact ⟨2, rfl, ⟨.inr (.inr (.inl ⟨rfl, rfl, by rw [HR.out]; simp [c]⟩))⟩, ⟨by repeat (first | exact HB.out | apply below_alloc | apply pw_below_drewN | apply below_drew1)⟩⟩
  ·have HR := Aside0.mk hr
   clear hr HX
   have hix : ∀ W : World, (Instr.index 53 (.agg #[.int .i64 128, .int .i64 256, .int .i64 512, .int .i64 1024]) (.int .i64 2)).run Try.prog W = .ok (.int .i64 512) W := fun W => disk_index W _ _ (by omega)
   by_cases c : a0 = 512
   ·subst c
    go_wp2
    go_ret
    exact ⟨by rw [HR.out]; rfl, by repeat (first | exact HB.out | apply below_alloc | apply pw_below_drewN | apply below_drew1)⟩
   have c0 : ((512 : Int) == a0) = false := beq_eq_false_iff_ne.mpr (fun h => c h.symm)
   have c1 : decide ((512 : Int) = a0) = false := decide_eq_false (fun h => c h.symm)
   go_wp2
   go_roundg 2
   case measure => omega
   case rel => exact ⟨3, rfl, ⟨.inr (.inr (.inr (.inl ⟨rfl, rfl, by rw [HR.out]; simp [c]⟩)))⟩, ⟨by repeat (first | exact HB.out | apply below_alloc | apply pw_below_drewN | apply below_drew1)⟩⟩
  ·have HR := Aside0.mk hr
   clear hr HX
   have hix : ∀ W : World, (Instr.index 53 (.agg #[.int .i64 128, .int .i64 256, .int .i64 512, .int .i64 1024]) (.int .i64 3)).run Try.prog W = .ok (.int .i64 1024) W := fun W => disk_index W _ _ (by omega)
   by_cases c : a0 = 1024
   ·subst c
    go_wp2
    go_ret
    exact ⟨by rw [HR.out]; rfl, by repeat (first | exact HB.out | apply below_alloc | apply pw_below_drewN | apply below_drew1)⟩
   have c0 : ((1024 : Int) == a0) = false := beq_eq_false_iff_ne.mpr (fun h => c h.symm)
   have c1 : decide ((1024 : Int) = a0) = false := decide_eq_false (fun h => c h.symm)
   go_wp2
   go_roundg 1
   case measure => omega
   case rel => exact ⟨4, rfl, ⟨.inr (.inr (.inr (.inr ⟨rfl, rfl, by rw [HR.out]; simp [c]⟩)))⟩, ⟨by repeat (first | exact HB.out | apply below_alloc | apply pw_below_drewN | apply below_drew1)⟩⟩
  ·have HR := Aside0.mk hr
   clear hr HX
   go_wp2
   go_ret
   exact ⟨by rw [HR.out]; rfl, by repeat (first | exact HB.out | apply below_alloc | apply pw_below_drewN | apply below_drew1)⟩


/-! ### level_Right: function 10 -/
def level_Right.l0 : Nat → Int → ByteArray → List ByteArray → Int → Int → Option (Bool)
 | 0, _, _, _, _, _ => none
 | k + 1, x1, x5, x8, x9, x10 => if x10 < x9 then (if 0 ≤ x10 then (if x10 < (x8.length : Int) then (if ((Op.bytesLess x5.toList ((rdOf ByteArray.empty x8 x10).toList)) = true) then (if ((rdOf ByteArray.empty x8 x10).size : Int) > (wrap64 (Int.tdiv x1 8)) then (some false) else (level_Right.l0 k x1 (rdOf ByteArray.empty x8 x10) x8 x9 (wrap64 (x10 + 1)))) else (some false)) else (none)) else (none)) else ((disk_Size.f x1).bind fun t204 => (some t204))
def level_Right.f (k : Nat) (l0 : List ByteArray) (a1 : Int) : Option (Bool) := level_Right.l0 k a1 (⟨#[]⟩ : ByteArray) l0 (l0.length : Int) 0
theorem level_Right.mono_l : ∀ k, (∀ y0 y1 y2 y3 y4, LeO (level_Right.l0 k y0 y1 y2 y3 y4) (level_Right.l0 (k + 1) y0 y1 y2 y3 y4))
 | 0 => fun _ _ _ _ _ r h => by simp [level_Right.l0] at h
 | k + 1 => by
  have ih0 := level_Right.mono_l k
  ·intro y0 y1 y2 y3 y4
   unfold level_Right.l0
   repeat' first
   | (with_reducible exact ih0 _ _ _ _ _)
   | (with_reducible exact LeO.refl _)
   | (with_reducible exact LeO.none _)
   | (with_reducible refine LeO.ite ?_ ?_)
   | (with_reducible refine LeO.bind ?_ (fun _ => ?_))
   | exact ih0 _ _ _ _ _
   | exact LeO.none _
   | refine LeO.ite ?_ ?_
   | refine LeO.bind ?_ (fun _ => ?_)
theorem level_Right.mono : ∀ a0 a1 k, LeO (level_Right.f k a0 a1) (level_Right.f (k + 1) a0 a1) := by
 intro a0 a1 k
 have ih0 := level_Right.mono_l k
 unfold level_Right.f
 repeat' first
   | (with_reducible exact ih0 _ _ _ _ _)
   | (with_reducible exact LeO.refl _)
   | (with_reducible exact LeO.none _)
   | (with_reducible refine LeO.ite ?_ ?_)
   | (with_reducible refine LeO.bind ?_ (fun _ => ?_))
   | exact ih0 _ _ _ _ _
   | exact LeO.none _
   | refine LeO.ite ?_ ?_
   | refine LeO.bind ?_ (fun _ => ?_)
set_option maxHeartbeats 8000000 in
set_option maxRecDepth 100000 in
theorem level_Right.calls (k : Nat) (A0 : Option Addr) (c0 : Nat) (l0 : List ByteArray) (a1 : Int) (r : Bool) (w : World) (hr0 : Kd.C Kd.string w A0 l0.length l0) (hc0 : l0.length ≤ c0) (h : level_Right.f k l0 a1 = some r) :
  Calls Try.prog 10 #[.slice A0 l0.length c0, .int .i64 a1] w fun e w' => e = .returned (.bool r) ∧ Below w.heap.size w w' := by
 have HR0 := Aside0.mk hr0
 have HC0 := Aside0.mk hc0
 clear hr0 hc0
 have HB := as_ (Below.refl w.heap.size w)
 have H : (level_Right.l0 k a1 (⟨#[]⟩ : ByteArray) l0 (l0.length : Int) 0) = some r := h
 clear h
 have H' := Aside0.mk H
 clear H
 go_enter Try.func10, Try.ntmps10
 go_wp2
 go_loopg [5, 10] k (fun kq v5 v10 w' => ∃ (x5_1 : ByteArray) (x10_1 : Int), v5 = .string x5_1 ∧ v10 = .int .i64 x10_1 ∧ Aside0 (level_Right.l0 kq a1 x5_1 l0 (l0.length : Int) x10_1 = some r) ∧ Aside0 (kq ≤ k) ∧ Aside0 (Below w.heap.size w w'))
 case atStart => exact ⟨((⟨#[]⟩ : ByteArray)), (0), (by first | rfl | (simp; done) | (simp [*]; done)), (by first | rfl | (simp; done) | (simp [*]; done)), H', ⟨Nat.le_refl _⟩, ⟨by repeat (first | (with_reducible first | exact HB.out | apply below_alloc | apply pw_below_drewN | apply below_drew1) | exact HB.out)⟩⟩
 case round =>
  clear H'
  try clear c1
  try clear p2
  obtain ⟨x5_1, x10_1, rfl, rfl, HA, HK1, HB⟩ := hrel
  cases gk with
  | zero => exact absurd HA.out (by simp [level_Right.l0])
  | succ k1 =>
   have H := HA.out
   clear HA
   simp only [level_Right.l0] at H
   by_cases c3 : x10_1 < (l0.length : Int)
   rotate_left
   ·rw [if_neg c3] at H
    have c3b0 : decide (x10_1 < (l0.length : Int)) = false := decide_eq_false c3
    clear c3
    replace H := bM H
    obtain ⟨t204, A80, H⟩ := H
    replace H : (some t204) = some r := H
    have A8 := Aside0.mk A80
    clear A80
    obtain rfl := Option.some.inj H
    go_wp2_with (first | ((with_reducible refine gate_callee (f := 29) rfl ?_); refine goesL_ (some 27) rfl rfl Try.func29 (by kernel_rfl) rfl #[.int .i64 a1] rfl aO ?_; (with_reducible refine (disk_Size.calls a1 t204 _ A8.out).mono ?_); rintro e w9 ⟨rfl, hb⟩; refine ⟨_, rfl, ?_⟩; replace HB := as_ (below_step bA hb); (try clear hb); (try clear hb2); (try clear hk); (try clear hi)))
    go_ret
    exact ⟨eW, by repeat (first | (with_reducible first | exact HB.out | apply below_alloc | apply pw_below_drewN | apply below_drew1) | exact HB.out)⟩
 
   rw [if_pos c3] at H
   have c3b0 : decide (x10_1 < (l0.length : Int)) = true := decide_eq_true c3
   clear c3
   by_cases c4 : 0 ≤ x10_1
   rotate_left
   ·rw [if_neg c4] at H
    exact absurd H (by simp)
   rw [if_pos c4] at H
   have c4b0 : decide (0 ≤ x10_1) = true := decide_eq_true c4
   clear c4
   by_cases c5 : x10_1 < (l0.length : Int)
   rotate_left
   ·rw [if_neg c5] at H
    exact absurd H (by simp)
   rw [if_pos c5] at H
   have c5b0 : decide (x10_1 < (l0.length : Int)) = true := decide_eq_true c5
   clear c5
   by_cases c6 : ((Op.bytesLess x5_1.toList ((rdOf ByteArray.empty l0 x10_1).toList)) = true)
   rotate_left
   ·rw [if_neg c6] at H
    have c6b0 : (Op.bytesLess x5_1.toList ((rdOf ByteArray.empty l0 x10_1).toList)) = false := by simpa using c6
    clear c6
    obtain rfl := Option.some.inj H
    have p203 : 0 ≤ (x10_1 : Int) := of_decide_eq_true aM
    have q203 : x10_1 < (l0.length : Int) := of_decide_eq_true aM
    obtain ⟨ad203, e203, hx203_0⟩ := Kd.at_string HR0.out x10_1 p203 q203
    cases e203
    replace hx203_0 := (HB.out.cell (World.block_lt_of_cell? w _ hx203_0)).trans hx203_0
    replace p203 := eq_true p203
    replace q203 := eq_true q203
    go_wp2
    go_ret
    exact ⟨eW, by repeat (first | (with_reducible first | exact HB.out | apply below_alloc | apply pw_below_drewN | apply below_drew1) | exact HB.out)⟩
   rw [if_pos c6] at H
   have c6b0 : (Op.bytesLess x5_1.toList ((rdOf ByteArray.empty l0 x10_1).toList)) = true := c6
   clear c6
   by_cases c7 : ((rdOf ByteArray.empty l0 x10_1).size : Int) > (wrap64 (Int.tdiv a1 8))
   ·rw [if_pos c7] at H
    have c7b0 : decide ((wrap64 (Int.tdiv a1 8)) < ((rdOf ByteArray.empty l0 x10_1).size : Int)) = true := decide_eq_true c7
    clear c7
    obtain rfl := Option.some.inj H
    have p203 : 0 ≤ (x10_1 : Int) := of_decide_eq_true aM
    have q203 : x10_1 < (l0.length : Int) := of_decide_eq_true aM
    obtain ⟨ad203, e203, hx203_0⟩ := Kd.at_string HR0.out x10_1 p203 q203
    cases e203
    replace hx203_0 := (HB.out.cell (World.block_lt_of_cell? w _ hx203_0)).trans hx203_0
    replace p203 := eq_true p203
    replace q203 := eq_true q203
    go_wp2
    go_ret
    exact ⟨eW, by repeat (first | (with_reducible first | exact HB.out | apply below_alloc | apply pw_below_drewN | apply below_drew1) | exact HB.out)⟩
   rw [if_neg c7] at H
   have c7b0 : decide ((wrap64 (Int.tdiv a1 8)) < ((rdOf ByteArray.empty l0 x10_1).size : Int)) = false := decide_eq_false c7
   clear c7
   have H' := Aside0.mk H
   clear H
   have p203 : 0 ≤ (x10_1 : Int) := of_decide_eq_true aM
   have q203 : x10_1 < (l0.length : Int) := of_decide_eq_true aM
   obtain ⟨ad203, e203, hx203_0⟩ := Kd.at_string HR0.out x10_1 p203 q203
   cases e203
   replace hx203_0 := (HB.out.cell (World.block_lt_of_cell? w _ hx203_0)).trans hx203_0
   replace p203 := eq_true p203
   replace q203 := eq_true q203
   go_wp2
   go_roundg k1
   case measure => have := HK1.out; omega
   case rel => exact ⟨(rdOf ByteArray.empty l0 x10_1), (wrap64 (x10_1 + 1)), (by first | rfl | (simp; done) | (simp [*]; done)), (by first | rfl | (simp; done) | (simp [*]; done)), H', ⟨by have := HK1.out; omega⟩, ⟨by repeat (first | (with_reducible first | exact HB.out | apply below_alloc | apply pw_below_drewN | apply below_drew1) | exact HB.out)⟩⟩
/-! ### withyref01_Ints: function 15 -/
def withyref01_Ints.l0 : Nat → List Int → List Int → Int → Option (Bool)
 | 0, _, _, _ => none
 | k + 1, x0, x1, x5 => if x5 < (x0.length : Int) then (if 0 ≤ x5 then (if x5 < (x1.length : Int) then (if (rd x0 x5) = (rd x1 x5) then (withyref01_Ints.l0 k x0 x1 (wrap64 (x5 + 1))) else (some false)) else (none)) else (none)) else (some true)
def withyref01_Ints.f (k : Nat) (l0 : List Int) (l1 : List Int) : Option (Bool) := if (l0.length : Int) = (l1.length : Int) then (withyref01_Ints.l0 k l0 l1 0) else (some false)
theorem withyref01_Ints.mono_l : ∀ k, (∀ y0 y1 y2, LeO (withyref01_Ints.l0 k y0 y1 y2) (withyref01_Ints.l0 (k + 1) y0 y1 y2))
 | 0 => fun _ _ _ r h => by simp [withyref01_Ints.l0] at h
 | k + 1 => by
  have ih0 := withyref01_Ints.mono_l k
  ·intro y0 y1 y2
   unfold withyref01_Ints.l0
   repeat' first
   | (with_reducible exact ih0 _ _ _)
   | (with_reducible exact LeO.refl _)
   | (with_reducible exact LeO.none _)
   | (with_reducible refine LeO.ite ?_ ?_)
   | (with_reducible refine LeO.bind ?_ (fun _ => ?_))
   | exact ih0 _ _ _
   | exact LeO.none _
   | refine LeO.ite ?_ ?_
   | refine LeO.bind ?_ (fun _ => ?_)
theorem withyref01_Ints.mono : ∀ a0 a1 k, LeO (withyref01_Ints.f k a0 a1) (withyref01_Ints.f (k + 1) a0 a1) := by
 intro a0 a1 k
 have ih0 := withyref01_Ints.mono_l k
 unfold withyref01_Ints.f
 repeat' first
   | (with_reducible exact ih0 _ _ _)
   | (with_reducible exact LeO.refl _)
   | (with_reducible exact LeO.none _)
   | (with_reducible refine LeO.ite ?_ ?_)
   | (with_reducible refine LeO.bind ?_ (fun _ => ?_))
   | exact ih0 _ _ _
   | exact LeO.none _
   | refine LeO.ite ?_ ?_
   | refine LeO.bind ?_ (fun _ => ?_)
set_option maxHeartbeats 8000000 in
set_option maxRecDepth 100000 in
theorem withyref01_Ints.calls (k : Nat) (A0 : Option Addr) (c0 : Nat) (l0 : List Int) (A1 : Option Addr) (c1 : Nat) (l1 : List Int) (r : Bool) (w : World) (hr0 : Kd.C (Kd.int .i64) w A0 l0.length l0) (hc0 : l0.length ≤ c0) (hr1 : Kd.C (Kd.int .i64) w A1 l1.length l1) (hc1 : l1.length ≤ c1) (h : withyref01_Ints.f k l0 l1 = some r) :
  Calls Try.prog 15 #[.slice A0 l0.length c0, .slice A1 l1.length c1] w fun e w' => e = .returned (.bool r) ∧ Drawn0 w w' := by
 have HR0 := Aside0.mk hr0
 have HC0 := Aside0.mk hc0
 clear hr0 hc0
 have HR1 := Aside0.mk hr1
 have HC1 := Aside0.mk hc1
 clear hr1 hc1
 have H : (if (l0.length : Int) = (l1.length : Int) then (withyref01_Ints.l0 k l0 l1 0) else (some false)) = some r := h
 clear h
 by_cases c3 : (l0.length : Int) = (l1.length : Int)
 rotate_left
 ·rw [if_neg c3] at H
  have c3b0 : ((l0.length : Int) == (l1.length : Int)) = false := beq_eq_false_iff_ne.mpr c3
  have c3b1 : ((l0.length : Int) != (l1.length : Int)) = true := bne_iff_ne.mpr c3
  have c3b2 : (l0.length == l1.length) = false := by first | simpa using c3 | (simp at c3 ⊢; omega)
  obtain rfl := Option.some.inj H
  go_enter Try.func15, Try.ntmps15
  go_wp2
  repeat (go_quiet (fail); try go_wp2)
  go_ret
  exact ⟨by first | rfl | (simp; done) | (simp [*]; done), by repeat (first | exact Drawn0.refl _ | apply Drawn0.step)⟩
 
 rw [if_pos c3] at H
 have c3b0 : ((l0.length : Int) == (l1.length : Int)) = true := beq_iff_eq.mpr c3
 have c3b1 : ((l0.length : Int) != (l1.length : Int)) = false := bne_eq_false_iff_eq.mpr c3
 have c3b2 : (l0.length == l1.length) = true := by first | simpa using c3 | (simp at c3 ⊢; omega)
 clear c3
 have H' := Aside0.mk H
 clear H
 go_enter Try.func15, Try.ntmps15
 go_wp2
 repeat (go_quiet (fail); try go_wp2)
 go_loopg [5] k (fun kq v5 w' => ∃ (x5_1 : Int), v5 = .int .i64 x5_1 ∧ Aside0 (withyref01_Ints.l0 kq l0 l1 x5_1 = some r) ∧ Aside0 (kq ≤ k) ∧ Drawn0 w w')
 case atStart => exact ⟨(0), (by first | rfl | (simp; done) | (simp [*]; done)), H', ⟨Nat.le_refl _⟩, by repeat (first | exact Drawn0.refl _ | apply Drawn0.step)⟩
 case round =>
  clear H'
  try clear c1
  try clear p2
  try clear c3
  try clear c3b0
  try clear c3b1
  try clear c3b2
  obtain ⟨x5_1, rfl, HA, HK1, ⟨m1, rfl⟩⟩ := hrel
  cases gk with
  | zero => exact absurd HA.out (by simp [withyref01_Ints.l0])
  | succ k1 =>
   have H := HA.out
   clear HA
   simp only [withyref01_Ints.l0] at H
   by_cases c4 : x5_1 < (l0.length : Int)
   rotate_left
   ·rw [if_neg c4] at H
    have c4b0 : decide (x5_1 < (l0.length : Int)) = false := decide_eq_false c4
    clear c4
    obtain rfl := Option.some.inj H
    go_wp2
    repeat (go_quiet (fail); try go_wp2)
    go_ret
    exact ⟨by first | rfl | (simp; done) | (simp [*]; done), by repeat (first | exact Drawn0.refl _ | apply Drawn0.step)⟩
   rw [if_pos c4] at H
   have c4b0 : decide (x5_1 < (l0.length : Int)) = true := decide_eq_true c4
   clear c4
   by_cases c5 : 0 ≤ x5_1
   rotate_left
   ·rw [if_neg c5] at H
    exact absurd H (by simp)
   rw [if_pos c5] at H
   have c5b0 : decide (0 ≤ x5_1) = true := decide_eq_true c5
   clear c5
   by_cases c6 : x5_1 < (l1.length : Int)
   rotate_left
   ·rw [if_neg c6] at H
    exact absurd H (by simp)
   rw [if_pos c6] at H
   have c6b0 : decide (x5_1 < (l1.length : Int)) = true := decide_eq_true c6
   clear c6
   by_cases c7 : (rd l0 x5_1) = (rd l1 x5_1)
   rotate_left
   ·rw [if_neg c7] at H
    have c7b0 : ((rd l0 x5_1) == (rd l1 x5_1)) = false := beq_eq_false_iff_ne.mpr c7
    have c7b1 : ((rd l0 x5_1) != (rd l1 x5_1)) = true := bne_iff_ne.mpr c7
    obtain rfl := Option.some.inj H
    have p205 : 0 ≤ (x5_1 : Int) := of_decide_eq_true aM
    have q205 : x5_1 < (l0.length : Int) := of_decide_eq_true aM
    obtain ⟨ad205, e205, hx205_0⟩ := Kd.at_int HR0.out x5_1 p205 q205
    cases e205
    replace p205 := eq_true p205
    replace q205 := eq_true q205
    have p206 : 0 ≤ (x5_1 : Int) := of_decide_eq_true aM
    have q206 : x5_1 < (l1.length : Int) := of_decide_eq_true aM
    obtain ⟨ad206, e206, hx206_0⟩ := Kd.at_int HR1.out x5_1 p206 q206
    cases e206
    replace p206 := eq_true p206
    replace q206 := eq_true q206
    go_wp2
    repeat (go_quiet (fail); try go_wp2)
    go_ret
    exact ⟨by first | rfl | (simp; done) | (simp [*]; done), by repeat (first | exact Drawn0.refl _ | apply Drawn0.step)⟩
   rw [if_pos c7] at H
   have c7b0 : ((rd l0 x5_1) == (rd l1 x5_1)) = true := beq_iff_eq.mpr c7
   have c7b1 : ((rd l0 x5_1) != (rd l1 x5_1)) = false := bne_eq_false_iff_eq.mpr c7
   clear c7
   have H' := Aside0.mk H
   clear H
   have p205 : 0 ≤ (x5_1 : Int) := of_decide_eq_true aM
   have q205 : x5_1 < (l0.length : Int) := of_decide_eq_true aM
   obtain ⟨ad205, e205, hx205_0⟩ := Kd.at_int HR0.out x5_1 p205 q205
   cases e205
   replace p205 := eq_true p205
   replace q205 := eq_true q205
   have p206 : 0 ≤ (x5_1 : Int) := of_decide_eq_true aM
   have q206 : x5_1 < (l1.length : Int) := of_decide_eq_true aM
   obtain ⟨ad206, e206, hx206_0⟩ := Kd.at_int HR1.out x5_1 p206 q206
   cases e206
   replace p206 := eq_true p206
   replace q206 := eq_true q206
   go_wp2
   repeat (go_quiet (fail); try go_wp2)
   go_roundg k1
   case measure => have := HK1.out; omega
   case rel => exact ⟨(wrap64 (x5_1 + 1)), (by first | rfl | (simp; done) | (simp [*]; done)), H', ⟨by have := HK1.out; omega⟩, by repeat (first | exact Drawn0.refl _ | apply Drawn0.step)⟩
/-! ### withyref01_Words: function 17 -/
def withyref01_Words.l0 : Nat → List ByteArray → List ByteArray → Int → Option (Bool)
 | 0, _, _, _ => none
 | k + 1, x0, x1, x5 => if x5 < (x0.length : Int) then (if 0 ≤ x5 then (if x5 < (x1.length : Int) then (if (rdOf ByteArray.empty x0 x5).toList = (rdOf ByteArray.empty x1 x5).toList then (withyref01_Words.l0 k x0 x1 (wrap64 (x5 + 1))) else (some false)) else (none)) else (none)) else (some true)
def withyref01_Words.f (k : Nat) (l0 : List ByteArray) (l1 : List ByteArray) : Option (Bool) := if (l0.length : Int) = (l1.length : Int) then (withyref01_Words.l0 k l0 l1 0) else (some false)
theorem withyref01_Words.mono_l : ∀ k, (∀ y0 y1 y2, LeO (withyref01_Words.l0 k y0 y1 y2) (withyref01_Words.l0 (k + 1) y0 y1 y2))
 | 0 => fun _ _ _ r h => by simp [withyref01_Words.l0] at h
 | k + 1 => by
  have ih0 := withyref01_Words.mono_l k
  ·intro y0 y1 y2
   unfold withyref01_Words.l0
   repeat' first
   | (with_reducible exact ih0 _ _ _)
   | (with_reducible exact LeO.refl _)
   | (with_reducible exact LeO.none _)
   | (with_reducible refine LeO.ite ?_ ?_)
   | (with_reducible refine LeO.bind ?_ (fun _ => ?_))
   | exact ih0 _ _ _
   | exact LeO.none _
   | refine LeO.ite ?_ ?_
   | refine LeO.bind ?_ (fun _ => ?_)
theorem withyref01_Words.mono : ∀ a0 a1 k, LeO (withyref01_Words.f k a0 a1) (withyref01_Words.f (k + 1) a0 a1) := by
 intro a0 a1 k
 have ih0 := withyref01_Words.mono_l k
 unfold withyref01_Words.f
 repeat' first
   | (with_reducible exact ih0 _ _ _)
   | (with_reducible exact LeO.refl _)
   | (with_reducible exact LeO.none _)
   | (with_reducible refine LeO.ite ?_ ?_)
   | (with_reducible refine LeO.bind ?_ (fun _ => ?_))
   | exact ih0 _ _ _
   | exact LeO.none _
   | refine LeO.ite ?_ ?_
   | refine LeO.bind ?_ (fun _ => ?_)
set_option maxHeartbeats 8000000 in
set_option maxRecDepth 100000 in
theorem withyref01_Words.calls (k : Nat) (A0 : Option Addr) (c0 : Nat) (l0 : List ByteArray) (A1 : Option Addr) (c1 : Nat) (l1 : List ByteArray) (r : Bool) (w : World) (hr0 : Kd.C Kd.string w A0 l0.length l0) (hc0 : l0.length ≤ c0) (hr1 : Kd.C Kd.string w A1 l1.length l1) (hc1 : l1.length ≤ c1) (h : withyref01_Words.f k l0 l1 = some r) :
  Calls Try.prog 17 #[.slice A0 l0.length c0, .slice A1 l1.length c1] w fun e w' => e = .returned (.bool r) ∧ Drawn0 w w' := by
 have HR0 := Aside0.mk hr0
 have HC0 := Aside0.mk hc0
 clear hr0 hc0
 have HR1 := Aside0.mk hr1
 have HC1 := Aside0.mk hc1
 clear hr1 hc1
 have H : (if (l0.length : Int) = (l1.length : Int) then (withyref01_Words.l0 k l0 l1 0) else (some false)) = some r := h
 clear h
 by_cases c3 : (l0.length : Int) = (l1.length : Int)
 rotate_left
 ·rw [if_neg c3] at H
  have c3b0 : ((l0.length : Int) == (l1.length : Int)) = false := beq_eq_false_iff_ne.mpr c3
  have c3b1 : ((l0.length : Int) != (l1.length : Int)) = true := bne_iff_ne.mpr c3
  have c3b2 : (l0.length == l1.length) = false := by first | simpa using c3 | (simp at c3 ⊢; omega)
  obtain rfl := Option.some.inj H
  go_enter Try.func17, Try.ntmps17
  go_wp2
  repeat (go_quiet (fail); try go_wp2)
  go_ret
  exact ⟨by first | rfl | (simp; done) | (simp [*]; done), by repeat (first | exact Drawn0.refl _ | apply Drawn0.step)⟩
 
 rw [if_pos c3] at H
 have c3b0 : ((l0.length : Int) == (l1.length : Int)) = true := beq_iff_eq.mpr c3
 have c3b1 : ((l0.length : Int) != (l1.length : Int)) = false := bne_eq_false_iff_eq.mpr c3
 have c3b2 : (l0.length == l1.length) = true := by first | simpa using c3 | (simp at c3 ⊢; omega)
 clear c3
 have H' := Aside0.mk H
 clear H
 go_enter Try.func17, Try.ntmps17
 go_wp2
 repeat (go_quiet (fail); try go_wp2)
 go_loopg [5] k (fun kq v5 w' => ∃ (x5_1 : Int), v5 = .int .i64 x5_1 ∧ Aside0 (withyref01_Words.l0 kq l0 l1 x5_1 = some r) ∧ Aside0 (kq ≤ k) ∧ Drawn0 w w')
 case atStart => exact ⟨(0), (by first | rfl | (simp; done) | (simp [*]; done)), H', ⟨Nat.le_refl _⟩, by repeat (first | exact Drawn0.refl _ | apply Drawn0.step)⟩
 case round =>
  clear H'
  try clear c1
  try clear p2
  try clear c3
  try clear c3b0
  try clear c3b1
  try clear c3b2
  obtain ⟨x5_1, rfl, HA, HK1, ⟨m1, rfl⟩⟩ := hrel
  cases gk with
  | zero => exact absurd HA.out (by simp [withyref01_Words.l0])
  | succ k1 =>
   have H := HA.out
   clear HA
   simp only [withyref01_Words.l0] at H
   by_cases c4 : x5_1 < (l0.length : Int)
   rotate_left
   ·rw [if_neg c4] at H
    have c4b0 : decide (x5_1 < (l0.length : Int)) = false := decide_eq_false c4
    clear c4
    obtain rfl := Option.some.inj H
    go_wp2
    repeat (go_quiet (fail); try go_wp2)
    go_ret
    exact ⟨by first | rfl | (simp; done) | (simp [*]; done), by repeat (first | exact Drawn0.refl _ | apply Drawn0.step)⟩
   rw [if_pos c4] at H
   have c4b0 : decide (x5_1 < (l0.length : Int)) = true := decide_eq_true c4
   clear c4
   by_cases c5 : 0 ≤ x5_1
   rotate_left
   ·rw [if_neg c5] at H
    exact absurd H (by simp)
   rw [if_pos c5] at H
   have c5b0 : decide (0 ≤ x5_1) = true := decide_eq_true c5
   clear c5
   by_cases c6 : x5_1 < (l1.length : Int)
   rotate_left
   ·rw [if_neg c6] at H
    exact absurd H (by simp)
   rw [if_pos c6] at H
   have c6b0 : decide (x5_1 < (l1.length : Int)) = true := decide_eq_true c6
   clear c6
   by_cases c7 : (rdOf ByteArray.empty l0 x5_1).toList = (rdOf ByteArray.empty l1 x5_1).toList
   rotate_left
   ·rw [if_neg c7] at H
    have c7b0 : ((rdOf ByteArray.empty l0 x5_1).toList == (rdOf ByteArray.empty l1 x5_1).toList) = false := beq_eq_false_iff_ne.mpr c7
    have c7b1 : ((rdOf ByteArray.empty l0 x5_1).toList != (rdOf ByteArray.empty l1 x5_1).toList) = true := bne_iff_ne.mpr c7
    obtain rfl := Option.some.inj H
    have p207 : 0 ≤ (x5_1 : Int) := of_decide_eq_true aM
    have q207 : x5_1 < (l0.length : Int) := of_decide_eq_true aM
    obtain ⟨ad207, e207, hx207_0⟩ := Kd.at_string HR0.out x5_1 p207 q207
    cases e207
    replace p207 := eq_true p207
    replace q207 := eq_true q207
    have p208 : 0 ≤ (x5_1 : Int) := of_decide_eq_true aM
    have q208 : x5_1 < (l1.length : Int) := of_decide_eq_true aM
    obtain ⟨ad208, e208, hx208_0⟩ := Kd.at_string HR1.out x5_1 p208 q208
    cases e208
    replace p208 := eq_true p208
    replace q208 := eq_true q208
    go_wp2
    repeat (go_quiet (fail); try go_wp2)
    go_ret
    exact ⟨by first | rfl | (simp; done) | (simp [*]; done), by repeat (first | exact Drawn0.refl _ | apply Drawn0.step)⟩
   rw [if_pos c7] at H
   have c7b0 : ((rdOf ByteArray.empty l0 x5_1).toList == (rdOf ByteArray.empty l1 x5_1).toList) = true := beq_iff_eq.mpr c7
   have c7b1 : ((rdOf ByteArray.empty l0 x5_1).toList != (rdOf ByteArray.empty l1 x5_1).toList) = false := bne_eq_false_iff_eq.mpr c7
   clear c7
   have H' := Aside0.mk H
   clear H
   have p207 : 0 ≤ (x5_1 : Int) := of_decide_eq_true aM
   have q207 : x5_1 < (l0.length : Int) := of_decide_eq_true aM
   obtain ⟨ad207, e207, hx207_0⟩ := Kd.at_string HR0.out x5_1 p207 q207
   cases e207
   replace p207 := eq_true p207
   replace q207 := eq_true q207
   have p208 : 0 ≤ (x5_1 : Int) := of_decide_eq_true aM
   have q208 : x5_1 < (l1.length : Int) := of_decide_eq_true aM
   obtain ⟨ad208, e208, hx208_0⟩ := Kd.at_string HR1.out x5_1 p208 q208
   cases e208
   replace p208 := eq_true p208
   replace q208 := eq_true q208
   go_wp2
   repeat (go_quiet (fail); try go_wp2)
   go_roundg k1
   case measure => have := HK1.out; omega
   case rel => exact ⟨(wrap64 (x5_1 + 1)), (by first | rfl | (simp; done) | (simp [*]; done)), H', ⟨by have := HK1.out; omega⟩, by repeat (first | exact Drawn0.refl _ | apply Drawn0.step)⟩
/-! ### level_Up: function 18 -/
def level_Up.l0 : Nat → List ByteArray → List ByteArray → Int → List Int → Int → Int → Option (List ByteArray)
 | 0, _, _, _, _, _, _ => none
 | k + 1, x0, x5, x6, x9, x10, x11 => if x11 < x10 then (if 0 ≤ x11 then (if x11 < (x9.length : Int) then (if (wrap64 (x6 + (rd x9 x11))) ≤ (x0.length : Int) then (if 0 ≤ (wrap64 ((wrap64 (x6 + (rd x9 x11))) - 1)) then (if (wrap64 ((wrap64 (x6 + (rd x9 x11))) - 1)) < (x0.length : Int) then (if x5.length < 8796093022208 then (level_Up.l0 k x0 (x5 ++ [rdOf ByteArray.empty x0 (wrap64 ((wrap64 (x6 + (rd x9 x11))) - 1))]) (wrap64 (x6 + (rd x9 x11))) x9 x10 (wrap64 (x11 + 1))) else (none)) else (none)) else (none)) else (level_Up.l0 k x0 x5 (wrap64 (x6 + (rd x9 x11))) x9 x10 (wrap64 (x11 + 1)))) else (none)) else (none)) else (some x5)
def level_Up.f (k : Nat) (l0 : List ByteArray) (l1 : List Int) : Option (List ByteArray) := level_Up.l0 k l0 ([] : List ByteArray) 0 l1 (l1.length : Int) 0
theorem level_Up.mono_l : ∀ k, (∀ y0 y1 y2 y3 y4 y5, LeO (level_Up.l0 k y0 y1 y2 y3 y4 y5) (level_Up.l0 (k + 1) y0 y1 y2 y3 y4 y5))
 | 0 => fun _ _ _ _ _ _ r h => by simp [level_Up.l0] at h
 | k + 1 => by
  have ih0 := level_Up.mono_l k
  ·intro y0 y1 y2 y3 y4 y5
   unfold level_Up.l0
   repeat' first
   | (with_reducible exact ih0 _ _ _ _ _ _)
   | (with_reducible exact LeO.refl _)
   | (with_reducible exact LeO.none _)
   | (with_reducible refine LeO.ite ?_ ?_)
   | (with_reducible refine LeO.bind ?_ (fun _ => ?_))
   | exact ih0 _ _ _ _ _ _
   | exact LeO.none _
   | refine LeO.ite ?_ ?_
   | refine LeO.bind ?_ (fun _ => ?_)
theorem level_Up.mono : ∀ a0 a1 k, LeO (level_Up.f k a0 a1) (level_Up.f (k + 1) a0 a1) := by
 intro a0 a1 k
 have ih0 := level_Up.mono_l k
 unfold level_Up.f
 repeat' first
   | (with_reducible exact ih0 _ _ _ _ _ _)
   | (with_reducible exact LeO.refl _)
   | (with_reducible exact LeO.none _)
   | (with_reducible refine LeO.ite ?_ ?_)
   | (with_reducible refine LeO.bind ?_ (fun _ => ?_))
   | exact ih0 _ _ _ _ _ _
   | exact LeO.none _
   | refine LeO.ite ?_ ?_
   | refine LeO.bind ?_ (fun _ => ?_)
set_option maxHeartbeats 8000000 in
set_option maxRecDepth 100000 in
theorem level_Up.calls (k : Nat) (A0 : Option Addr) (c0 : Nat) (l0 : List ByteArray) (A1 : Option Addr) (c1 : Nat) (l1 : List Int) (r : List ByteArray) (w : World) (hr0 : Kd.C Kd.string w A0 l0.length l0) (hc0 : l0.length ≤ c0) (hr1 : Kd.C (Kd.int .i64) w A1 l1.length l1) (hc1 : l1.length ≤ c1) (h : level_Up.f k l0 l1 = some r) :
  Calls Try.prog 18 #[.slice A0 l0.length c0, .slice A1 l1.length c1] w fun e w' => ∃ v0_ : Value, e = .returned (v0_) ∧ Kd.R Kd.string 9 w' w.heap.size (fun _ => True) v0_ r ∧ Below w.heap.size w w' := by
 have HR0 := Aside0.mk hr0
 have HC0 := Aside0.mk hc0
 clear hr0 hc0
 have HR1 := Aside0.mk hr1
 have HC1 := Aside0.mk hc1
 clear hr1 hc1
 have HB := as_ (Below.refl w.heap.size w)
 have H : (level_Up.l0 k l0 ([] : List ByteArray) 0 l1 (l1.length : Int) 0) = some r := h
 clear h
 have H' := Aside0.mk H
 clear H
 go_enter Try.func18, Try.ntmps18
 go_wp2
 go_loopg [5, 6, 11] k (fun kq v5 v6 v11 w' => ∃ (x5_1 : List ByteArray) (x6_1 : Int) (x11_1 : Int), v6 = .int .i64 x6_1 ∧ v11 = .int .i64 x11_1 ∧ Aside0 (level_Up.l0 kq l0 x5_1 x6_1 l1 (l1.length : Int) x11_1 = some r) ∧ Aside0 (kq ≤ k) ∧ Aside0 (Kd.R Kd.string 9 w' w.heap.size (fun _ => True) v5 x5_1) ∧ Aside0 (Below w.heap.size w w'))
 case atStart => exact ⟨(([] : List ByteArray)), (0), (0), (by first | rfl | (simp; done) | (simp [*]; done)), (by first | rfl | (simp; done) | (simp [*]; done)), H', ⟨Nat.le_refl _⟩, ⟨by first | exact Kd.R_nil _ _ _ _ _ | exact Kd.N_nil _ _ _ _ _ | exact Kd.V_nil _ _ _ _ _ | exact Kd.Q_nil _ _ _ _ _ | exact Kd.S_nil _ _ _ _ _⟩, ⟨by repeat (first | (with_reducible first | exact HB.out | apply below_alloc | apply pw_below_drewN | apply below_drew1) | exact HB.out)⟩⟩
 case round =>
  clear H'
  try clear c1
  try clear p2
  obtain ⟨x5_1, x6_1, x11_1, rfl, rfl, HA, HK1, HO_5, HB⟩ := hrel
  cases gk with
  | zero => exact absurd HA.out (by simp [level_Up.l0])
  | succ k1 =>
   have H := HA.out
   clear HA
   simp only [level_Up.l0] at H
   by_cases c3 : x11_1 < (l1.length : Int)
   rotate_left
   ·rw [if_neg c3] at H
    have c3b0 : decide (x11_1 < (l1.length : Int)) = false := decide_eq_false c3
    clear c3
    obtain rfl := Option.some.inj H
    go_wp2
    go_ret
    exact ⟨_, eW, by (with_reducible repeat (first | apply Kd.R_alloc | apply Kd.R_drewN | apply Kd.R_drew)); exact HO_5.out, by repeat (first | (with_reducible first | exact HB.out | apply below_alloc | apply pw_below_drewN | apply below_drew1) | exact HB.out)⟩
 
   rw [if_pos c3] at H
   have c3b0 : decide (x11_1 < (l1.length : Int)) = true := decide_eq_true c3
   clear c3
   by_cases c4 : 0 ≤ x11_1
   rotate_left
   ·rw [if_neg c4] at H
    exact absurd H (by simp)
   rw [if_pos c4] at H
   have c4b0 : decide (0 ≤ x11_1) = true := decide_eq_true c4
   clear c4
   by_cases c5 : x11_1 < (l1.length : Int)
   rotate_left
   ·rw [if_neg c5] at H
    exact absurd H (by simp)
   rw [if_pos c5] at H
   have c5b0 : decide (x11_1 < (l1.length : Int)) = true := decide_eq_true c5
   clear c5
   by_cases c6 : (wrap64 (x6_1 + (rd l1 x11_1))) ≤ (l0.length : Int)
   rotate_left
   ·rw [if_neg c6] at H
    have c6b0 : decide ((wrap64 (x6_1 + (rd l1 x11_1))) ≤ (l0.length : Int)) = false := decide_eq_false c6
    clear c6
    have H' := Aside0.mk H
    clear H
    have p209 : 0 ≤ (x11_1 : Int) := of_decide_eq_true aM
    have q209 : x11_1 < (l1.length : Int) := of_decide_eq_true aM
    obtain ⟨ad209, e209, hx209_0⟩ := Kd.at_int HR1.out x11_1 p209 q209
    cases e209
    replace hx209_0 := (HB.out.cell (World.block_lt_of_cell? w _ hx209_0)).trans hx209_0
    replace p209 := eq_true p209
    replace q209 := eq_true q209
    go_wp2
    go_roundg k1
    case measure => have := HK1.out; omega
    case rel => exact ⟨(x5_1), (wrap64 (x6_1 + (rd l1 x11_1))), (wrap64 (x11_1 + 1)), (by first | rfl | (simp; done) | (simp [*]; done)), (by first | rfl | (simp; done) | (simp [*]; done)), H', ⟨by have := HK1.out; omega⟩, ⟨by (with_reducible repeat (first | apply Kd.R_alloc | apply Kd.R_drewN | apply Kd.R_drew)); exact HO_5.out⟩, ⟨by repeat (first | (with_reducible first | exact HB.out | apply below_alloc | apply pw_below_drewN | apply below_drew1) | exact HB.out)⟩⟩
   rw [if_pos c6] at H
   have c6b0 : decide ((wrap64 (x6_1 + (rd l1 x11_1))) ≤ (l0.length : Int)) = true := decide_eq_true c6
   clear c6
   obtain ⟨ji7, hji7⟩ : ∃ j_ : Int, (wrap64 ((wrap64 (x6_1 + (rd l1 x11_1))) - 1)) = j_ := ⟨_, rfl⟩
   replace H : (if 0 ≤ (ji7) then (if (ji7) < (l0.length : Int) then (if x5_1.length < 8796093022208 then (level_Up.l0 k1 l0 (x5_1 ++ [rdOf ByteArray.empty l0 (ji7)]) (wrap64 (x6_1 + (rd l1 x11_1))) l1 (l1.length : Int) (wrap64 (x11_1 + 1))) else (none)) else (none)) else (none)) = some r := by first | (rw [hji7] at H; exact H) | (simp only [hji7] at H ⊢; exact H)
   have hji7w : (IntKind.i64.wrap ((wrap64 (x6_1 + (rd l1 x11_1))) - 1)) = ji7 := (i64_w _).trans hji7
   by_cases c8 : 0 ≤ (ji7)
   rotate_left
   ·rw [if_neg c8] at H
    exact absurd H (by simp)
   rw [if_pos c8] at H
   have c8b0 : decide (0 ≤ (ji7)) = true := decide_eq_true c8
   clear c8
   by_cases c9 : (ji7) < (l0.length : Int)
   rotate_left
   ·rw [if_neg c9] at H
    exact absurd H (by simp)
   rw [if_pos c9] at H
   have c9b0 : decide ((ji7) < (l0.length : Int)) = true := decide_eq_true c9
   clear c9
   by_cases c10 : x5_1.length < 8796093022208
   rotate_left
   ·rw [if_neg c10] at H
    exact absurd H (by simp)
   rw [if_pos c10] at H
   have LMc10 := Aside0.mk c10
   clear c10
   obtain ⟨y211, hy211⟩ : ∃ y_ : List ByteArray, y_ = (x5_1 ++ [rdOf ByteArray.empty l0 (ji7)]) := ⟨_, rfl⟩
   replace H : (level_Up.l0 k1 l0 y211 (wrap64 (x6_1 + (rd l1 x11_1))) l1 (l1.length : Int) (wrap64 (x11_1 + 1))) = some r := by first | (rw [hy211]; with_reducible exact H) | (have H2_ := (Option.bind_some _ _).symm.trans H; rw [hy211]; with_reducible exact H2_) | (have H2_ := (Option.bind_some _ _).symm.trans H; with_reducible exact H2_) | with_reducible exact H | (rw [hy211]; exact H) | exact H
   have Ny211 := Aside0.mk hy211
   clear hy211
   have H' := Aside0.mk H
   clear H
   have p209 : 0 ≤ (x11_1 : Int) := of_decide_eq_true aM
   have q209 : x11_1 < (l1.length : Int) := of_decide_eq_true aM
   obtain ⟨ad209, e209, hx209_0⟩ := Kd.at_int HR1.out x11_1 p209 q209
   cases e209
   replace hx209_0 := (HB.out.cell (World.block_lt_of_cell? w _ hx209_0)).trans hx209_0
   replace p209 := eq_true p209
   replace q209 := eq_true q209
   have p210 : 0 ≤ ((ji7) : Int) := of_decide_eq_true aM
   have q210 : (ji7) < (l0.length : Int) := of_decide_eq_true aM
   obtain ⟨ad210, e210, hx210_0⟩ := Kd.at_string HR0.out (ji7) p210 q210
   cases e210
   replace hx210_0 := (HB.out.cell (World.block_lt_of_cell? w _ hx210_0)).trans hx210_0
   replace p210 := eq_true p210
   replace q210 := eq_true q210
   go_wp2_with (first | ((with_reducible refine gate_builtin (b := .append) (xs := #[.tmp 22, .tmp 28]) rfl ?_); at_builtin; refine Kd.R_append Kd.string (w0 := w) w.heap.size rfl (.tmp 22) (.tmp 28) 22 9 (.string ⟨#[]⟩) 16 rfl Try.underlying22 info9 rfl (by decide) (by omega) u5 x5_1 (rdOf ByteArray.empty l0 (ji7)) [.string (rdOf ByteArray.empty l0 (ji7))] (fun _ => True) (fun _ => False) rfl rfl ?aP (fun _ hk => hk.elim) ?aF ?aO ?aB ?aS ?aL ?_; (case aP => exact rfl); (case aB => exact bA); (case aF => exact (fun _ _ => trivial)); (case aO => exact (by (with_reducible repeat (first | apply Kd.R_alloc | apply Kd.R_drewN | apply Kd.R_drew)); exact HO_5.out)); (case aS => exact (below_size bA)); (case aL => have := LMc10.out; omega); intro v212 w11 ho hb hg hat; rw [← Ny211.out] at ho; have HO213 := as_ (ho); replace HB := as_ (hb); clear HO_5; clear ho hb hg hat))
   go_roundg k1
   case measure => have := HK1.out; omega
   case rel => exact ⟨(y211), (wrap64 (x6_1 + (rd l1 x11_1))), (wrap64 (x11_1 + 1)), (by first | rfl | (simp; done) | (simp [*]; done)), (by first | rfl | (simp; done) | (simp [*]; done)), H', ⟨by have := HK1.out; omega⟩, ⟨by (with_reducible repeat (first | apply Kd.R_alloc | apply Kd.R_drewN | apply Kd.R_drew)); exact HO213.out⟩, ⟨by repeat (first | (with_reducible first | exact HB.out | apply below_alloc | apply pw_below_drewN | apply below_drew1) | exact HB.out)⟩⟩
/-! ### withylaw17_lists: function 20 -/
def withylaw17_lists.l0 : Nat → List (List ByteArray) → List (List ByteArray) → Int → Option (Bool)
 | 0, _, _, _ => none
 | k + 1, x0, x1, x5 => if x5 < (x0.length : Int) then (if 0 ≤ x5 then (if x5 < (x1.length : Int) then ((withyref01_Words.f k (rd_L4 x0 x5) (rd_L4 x1 x5)).bind fun t216 => (if t216 = true then (withylaw17_lists.l0 k x0 x1 (wrap64 (x5 + 1))) else (some false))) else (none)) else (none)) else (some true)
def withylaw17_lists.f (k : Nat) (l0 : List (List ByteArray)) (l1 : List (List ByteArray)) : Option (Bool) := if (l0.length : Int) = (l1.length : Int) then (withylaw17_lists.l0 k l0 l1 0) else (some false)
theorem withylaw17_lists.mono_l : ∀ k, (∀ y0 y1 y2, LeO (withylaw17_lists.l0 k y0 y1 y2) (withylaw17_lists.l0 (k + 1) y0 y1 y2))
 | 0 => fun _ _ _ r h => by simp [withylaw17_lists.l0] at h
 | k + 1 => by
  have ih0 := withylaw17_lists.mono_l k
  ·intro y0 y1 y2
   unfold withylaw17_lists.l0
   repeat' first
   | (with_reducible exact ih0 _ _ _)
   | (with_reducible exact withyref01_Words.mono _ _ _)
   | (with_reducible exact LeO.refl _)
   | (with_reducible exact LeO.none _)
   | (with_reducible refine LeO.ite ?_ ?_)
   | (with_reducible refine LeO.bind ?_ (fun _ => ?_))
   | exact ih0 _ _ _
   | exact withyref01_Words.mono _ _ _
   | exact LeO.none _
   | refine LeO.ite ?_ ?_
   | refine LeO.bind ?_ (fun _ => ?_)
theorem withylaw17_lists.mono : ∀ a0 a1 k, LeO (withylaw17_lists.f k a0 a1) (withylaw17_lists.f (k + 1) a0 a1) := by
 intro a0 a1 k
 have ih0 := withylaw17_lists.mono_l k
 unfold withylaw17_lists.f
 repeat' first
   | (with_reducible exact ih0 _ _ _)
   | (with_reducible exact withyref01_Words.mono _ _ _)
   | (with_reducible exact LeO.refl _)
   | (with_reducible exact LeO.none _)
   | (with_reducible refine LeO.ite ?_ ?_)
   | (with_reducible refine LeO.bind ?_ (fun _ => ?_))
   | exact ih0 _ _ _
   | exact withyref01_Words.mono _ _ _
   | exact LeO.none _
   | refine LeO.ite ?_ ?_
   | refine LeO.bind ?_ (fun _ => ?_)
set_option maxHeartbeats 8000000 in
set_option maxRecDepth 100000 in
theorem withylaw17_lists.calls (k : Nat) (A0 : Option Addr) (c0 : Nat) (l0 : List (List ByteArray)) (A1 : Option Addr) (c1 : Nat) (l1 : List (List ByteArray)) (r : Bool) (w : World) (hr0 : Kd.C (Kd.slice 9 Kd.string) w A0 l0.length l0) (hc0 : l0.length ≤ c0) (hr1 : Kd.C (Kd.slice 9 Kd.string) w A1 l1.length l1) (hc1 : l1.length ≤ c1) (h : withylaw17_lists.f k l0 l1 = some r) :
  Calls Try.prog 20 #[.slice A0 l0.length c0, .slice A1 l1.length c1] w fun e w' => e = .returned (.bool r) ∧ Drawn0 w w' := by
 have HR0 := Aside0.mk hr0
 have HC0 := Aside0.mk hc0
 clear hr0 hc0
 have HR1 := Aside0.mk hr1
 have HC1 := Aside0.mk hc1
 clear hr1 hc1
 have H : (if (l0.length : Int) = (l1.length : Int) then (withylaw17_lists.l0 k l0 l1 0) else (some false)) = some r := h
 clear h
 by_cases c3 : (l0.length : Int) = (l1.length : Int)
 rotate_left
 ·rw [if_neg c3] at H
  have c3b0 : ((l0.length : Int) == (l1.length : Int)) = false := beq_eq_false_iff_ne.mpr c3
  have c3b1 : ((l0.length : Int) != (l1.length : Int)) = true := bne_iff_ne.mpr c3
  have c3b2 : (l0.length == l1.length) = false := by first | simpa using c3 | (simp at c3 ⊢; omega)
  obtain rfl := Option.some.inj H
  go_enter Try.func20, Try.ntmps20
  go_wp2
  repeat (go_quiet (fail); try go_wp2)
  go_ret
  exact ⟨by first | rfl | (simp; done) | (simp [*]; done), by repeat (first | exact Drawn0.refl _ | apply Drawn0.step)⟩
 
 rw [if_pos c3] at H
 have c3b0 : ((l0.length : Int) == (l1.length : Int)) = true := beq_iff_eq.mpr c3
 have c3b1 : ((l0.length : Int) != (l1.length : Int)) = false := bne_eq_false_iff_eq.mpr c3
 have c3b2 : (l0.length == l1.length) = true := by first | simpa using c3 | (simp at c3 ⊢; omega)
 clear c3
 have H' := Aside0.mk H
 clear H
 go_enter Try.func20, Try.ntmps20
 go_wp2
 repeat (go_quiet (fail); try go_wp2)
 go_loopg [5] k (fun kq v5 w' => ∃ (x5_1 : Int), v5 = .int .i64 x5_1 ∧ Aside0 (withylaw17_lists.l0 kq l0 l1 x5_1 = some r) ∧ Aside0 (kq ≤ k) ∧ Drawn0 w w')
 case atStart => exact ⟨(0), (by first | rfl | (simp; done) | (simp [*]; done)), H', ⟨Nat.le_refl _⟩, by repeat (first | exact Drawn0.refl _ | apply Drawn0.step)⟩
 case round =>
  clear H'
  try clear c1
  try clear c2
  try clear p2
  try clear c3
  try clear c3b0
  try clear c3b1
  try clear c3b2
  obtain ⟨x5_1, rfl, HA, HK1, ⟨m1, rfl⟩⟩ := hrel
  cases gk with
  | zero => exact absurd HA.out (by simp [withylaw17_lists.l0])
  | succ k1 =>
   have H := HA.out
   clear HA
   simp only [withylaw17_lists.l0] at H
   by_cases c4 : x5_1 < (l0.length : Int)
   rotate_left
   ·rw [if_neg c4] at H
    have c4b0 : decide (x5_1 < (l0.length : Int)) = false := decide_eq_false c4
    clear c4
    obtain rfl := Option.some.inj H
    go_wp2
    repeat (go_quiet (fail); try go_wp2)
    go_ret
    exact ⟨by first | rfl | (simp; done) | (simp [*]; done), by repeat (first | exact Drawn0.refl _ | apply Drawn0.step)⟩
   rw [if_pos c4] at H
   have c4b0 : decide (x5_1 < (l0.length : Int)) = true := decide_eq_true c4
   clear c4
   by_cases c5 : 0 ≤ x5_1
   rotate_left
   ·rw [if_neg c5] at H
    exact absurd H (by simp)
   rw [if_pos c5] at H
   have c5b0 : decide (0 ≤ x5_1) = true := decide_eq_true c5
   clear c5
   by_cases c6 : x5_1 < (l1.length : Int)
   rotate_left
   ·rw [if_neg c6] at H
    exact absurd H (by simp)
   rw [if_pos c6] at H
   have c6b0 : decide (x5_1 < (l1.length : Int)) = true := decide_eq_true c6
   clear c6
   replace H := bM H
   obtain ⟨t216, A70, H⟩ := H
   replace H : (if t216 = true then (withylaw17_lists.l0 k1 l0 l1 (wrap64 (x5_1 + 1))) else (some false)) = some r := H
   have A7 := Aside0.mk A70
   clear A70
   by_cases c8 : t216 = true
   rotate_left
   ·replace c8 := Bool.eq_false_iff.mpr c8
    subst c8
    have H1 : (some false) = some r := by rw [if_neg (show ¬ (false = true) by decide)] at H; exact H
    clear H
    have H := H1
    clear H1
    obtain rfl := Option.some.inj H
    have p214 : 0 ≤ (x5_1 : Int) := of_decide_eq_true aM
    have q214 : x5_1 < (l0.length : Int) := of_decide_eq_true aM
    obtain ⟨ad214, A214_0, c214_0, e214, hx214_0, hl214_0, hi214_0⟩ := at_L4 HR0.out x5_1 p214 q214
    cases e214
    have HR214_0 := Aside0.mk hi214_0
    have HC214_0 := Aside0.mk hl214_0
    clear hi214_0 hl214_0
    replace p214 := eq_true p214
    replace q214 := eq_true q214
    have p215 : 0 ≤ (x5_1 : Int) := of_decide_eq_true aM
    have q215 : x5_1 < (l1.length : Int) := of_decide_eq_true aM
    obtain ⟨ad215, A215_0, c215_0, e215, hx215_0, hl215_0, hi215_0⟩ := at_L4 HR1.out x5_1 p215 q215
    cases e215
    have HR215_0 := Aside0.mk hi215_0
    have HC215_0 := Aside0.mk hl215_0
    clear hi215_0 hl215_0
    replace p215 := eq_true p215
    replace q215 := eq_true q215
    go_wp2_with (first | (go_at_call 17; (with_reducible refine (withyref01_Words.calls k1 _ _ (rd_L4 l0 x5_1) _ _ (rd_L4 l1 x5_1) false _ ?side1 ?side2 ?side3 ?side4 A7.out).mono ?_); (case side1 => repeat (first | exact HR214_0.out | (with_reducible refine Kd.C_alloc ?_ _) | (with_reducible refine Kd.C_drewN ?_ _) | (with_reducible refine Kd.C_drew ?_))); (case side2 => exact HC214_0.out); (case side3 => repeat (first | exact HR215_0.out | (with_reducible refine Kd.C_alloc ?_ _) | (with_reducible refine Kd.C_drewN ?_ _) | (with_reducible refine Kd.C_drew ?_))); (case side4 => exact HC215_0.out); rintro e w' ⟨rfl, ⟨nd, rfl⟩⟩; (try first | exact ⟨rfl, _, World.drewN_drewN _ _ _⟩ | exact ⟨rfl, _, Eq.trans (World.drewN_drewN _ _ _) (congrArg (World.drewN _) (Nat.add_assoc _ _ _))⟩)))
    repeat (go_quiet (first | (go_at_call 17; (with_reducible refine (withyref01_Words.calls k1 _ _ (rd_L4 l0 x5_1) _ _ (rd_L4 l1 x5_1) false _ ?side1 ?side2 ?side3 ?side4 A7.out).mono ?_); (case side1 => repeat (first | exact HR214_0.out | (with_reducible refine Kd.C_alloc ?_ _) | (with_reducible refine Kd.C_drewN ?_ _) | (with_reducible refine Kd.C_drew ?_))); (case side2 => exact HC214_0.out); (case side3 => repeat (first | exact HR215_0.out | (with_reducible refine Kd.C_alloc ?_ _) | (with_reducible refine Kd.C_drewN ?_ _) | (with_reducible refine Kd.C_drew ?_))); (case side4 => exact HC215_0.out); rintro e w' ⟨rfl, ⟨nd, rfl⟩⟩; (try first | exact ⟨rfl, _, World.drewN_drewN _ _ _⟩ | exact ⟨rfl, _, Eq.trans (World.drewN_drewN _ _ _) (congrArg (World.drewN _) (Nat.add_assoc _ _ _))⟩))); try go_wp2_with (first | (go_at_call 17; (with_reducible refine (withyref01_Words.calls k1 _ _ (rd_L4 l0 x5_1) _ _ (rd_L4 l1 x5_1) false _ ?side1 ?side2 ?side3 ?side4 A7.out).mono ?_); (case side1 => repeat (first | exact HR214_0.out | (with_reducible refine Kd.C_alloc ?_ _) | (with_reducible refine Kd.C_drewN ?_ _) | (with_reducible refine Kd.C_drew ?_))); (case side2 => exact HC214_0.out); (case side3 => repeat (first | exact HR215_0.out | (with_reducible refine Kd.C_alloc ?_ _) | (with_reducible refine Kd.C_drewN ?_ _) | (with_reducible refine Kd.C_drew ?_))); (case side4 => exact HC215_0.out); rintro e w' ⟨rfl, ⟨nd, rfl⟩⟩; (try first | exact ⟨rfl, _, World.drewN_drewN _ _ _⟩ | exact ⟨rfl, _, Eq.trans (World.drewN_drewN _ _ _) (congrArg (World.drewN _) (Nat.add_assoc _ _ _))⟩))))
    go_ret
    exact ⟨by first | rfl | (simp; done) | (simp [*]; done), by repeat (first | exact Drawn0.refl _ | apply Drawn0.step)⟩
   subst c8
   have H1 : (withylaw17_lists.l0 k1 l0 l1 (wrap64 (x5_1 + 1))) = some r := by rw [if_pos rfl] at H; exact H
   clear H
   have H := H1
   clear H1
   have H' := Aside0.mk H
   clear H
   have p214 : 0 ≤ (x5_1 : Int) := of_decide_eq_true aM
   have q214 : x5_1 < (l0.length : Int) := of_decide_eq_true aM
   obtain ⟨ad214, A214_0, c214_0, e214, hx214_0, hl214_0, hi214_0⟩ := at_L4 HR0.out x5_1 p214 q214
   cases e214
   have HR214_0 := Aside0.mk hi214_0
   have HC214_0 := Aside0.mk hl214_0
   clear hi214_0 hl214_0
   replace p214 := eq_true p214
   replace q214 := eq_true q214
   have p215 : 0 ≤ (x5_1 : Int) := of_decide_eq_true aM
   have q215 : x5_1 < (l1.length : Int) := of_decide_eq_true aM
   obtain ⟨ad215, A215_0, c215_0, e215, hx215_0, hl215_0, hi215_0⟩ := at_L4 HR1.out x5_1 p215 q215
   cases e215
   have HR215_0 := Aside0.mk hi215_0
   have HC215_0 := Aside0.mk hl215_0
   clear hi215_0 hl215_0
   replace p215 := eq_true p215
   replace q215 := eq_true q215
   go_wp2_with (first | (go_at_call 17; (with_reducible refine (withyref01_Words.calls k1 _ _ (rd_L4 l0 x5_1) _ _ (rd_L4 l1 x5_1) true _ ?side1 ?side2 ?side3 ?side4 A7.out).mono ?_); (case side1 => repeat (first | exact HR214_0.out | (with_reducible refine Kd.C_alloc ?_ _) | (with_reducible refine Kd.C_drewN ?_ _) | (with_reducible refine Kd.C_drew ?_))); (case side2 => exact HC214_0.out); (case side3 => repeat (first | exact HR215_0.out | (with_reducible refine Kd.C_alloc ?_ _) | (with_reducible refine Kd.C_drewN ?_ _) | (with_reducible refine Kd.C_drew ?_))); (case side4 => exact HC215_0.out); rintro e w' ⟨rfl, ⟨nd, rfl⟩⟩; (try first | exact ⟨rfl, _, World.drewN_drewN _ _ _⟩ | exact ⟨rfl, _, Eq.trans (World.drewN_drewN _ _ _) (congrArg (World.drewN _) (Nat.add_assoc _ _ _))⟩)))
   repeat (go_quiet (first | (go_at_call 17; (with_reducible refine (withyref01_Words.calls k1 _ _ (rd_L4 l0 x5_1) _ _ (rd_L4 l1 x5_1) true _ ?side1 ?side2 ?side3 ?side4 A7.out).mono ?_); (case side1 => repeat (first | exact HR214_0.out | (with_reducible refine Kd.C_alloc ?_ _) | (with_reducible refine Kd.C_drewN ?_ _) | (with_reducible refine Kd.C_drew ?_))); (case side2 => exact HC214_0.out); (case side3 => repeat (first | exact HR215_0.out | (with_reducible refine Kd.C_alloc ?_ _) | (with_reducible refine Kd.C_drewN ?_ _) | (with_reducible refine Kd.C_drew ?_))); (case side4 => exact HC215_0.out); rintro e w' ⟨rfl, ⟨nd, rfl⟩⟩; (try first | exact ⟨rfl, _, World.drewN_drewN _ _ _⟩ | exact ⟨rfl, _, Eq.trans (World.drewN_drewN _ _ _) (congrArg (World.drewN _) (Nat.add_assoc _ _ _))⟩))); try go_wp2_with (first | (go_at_call 17; (with_reducible refine (withyref01_Words.calls k1 _ _ (rd_L4 l0 x5_1) _ _ (rd_L4 l1 x5_1) true _ ?side1 ?side2 ?side3 ?side4 A7.out).mono ?_); (case side1 => repeat (first | exact HR214_0.out | (with_reducible refine Kd.C_alloc ?_ _) | (with_reducible refine Kd.C_drewN ?_ _) | (with_reducible refine Kd.C_drew ?_))); (case side2 => exact HC214_0.out); (case side3 => repeat (first | exact HR215_0.out | (with_reducible refine Kd.C_alloc ?_ _) | (with_reducible refine Kd.C_drewN ?_ _) | (with_reducible refine Kd.C_drew ?_))); (case side4 => exact HC215_0.out); rintro e w' ⟨rfl, ⟨nd, rfl⟩⟩; (try first | exact ⟨rfl, _, World.drewN_drewN _ _ _⟩ | exact ⟨rfl, _, Eq.trans (World.drewN_drewN _ _ _) (congrArg (World.drewN _) (Nat.add_assoc _ _ _))⟩))))
   go_roundg k1
   case measure => have := HK1.out; omega
   case rel => exact ⟨(wrap64 (x5_1 + 1)), (by first | rfl | (simp; done) | (simp [*]; done)), H', ⟨by have := HK1.out; omega⟩, by repeat (first | exact Drawn0.refl _ | apply Drawn0.step)⟩
end Go.Proofs.Ytfialmegikegbaa.P
