/- What is proved here: for functions of the Go text, a Lean function each, and that the call comes to just what it answers. Conditions: as each contract names them. Written by wip/tools/myprint.py, a driver of the print of the kit. -/
import Derived.Test.YthaicofleloplaaDoorP0
import Derived.Test.YthaicofleloplaaDoorP8
import Derived.Test.YthaicofleloplaaDoorWAbbr
namespace Go.Proofs.YthaicofleloplaaDoor.P
open Go.RowKit Go.Proofs.YthaicofleloplaaDoorW.PrintWords Go.Proofs.YthaicofleloplaaDoorW.PrintLast Go.Proofs.YthaicofleloplaaDoorW.PrintMore Go.Proofs.YthaicofleloplaaDoorW.Abbr
-- PACKED
attribute [local go_sem] max2_int min2_int max_two min_two max_three min_three max_four min_four Go.Proofs.YthaicofleloplaaDoorLaws.str_leq Go.Proofs.YthaicofleloplaaDoorLaws.str_gtr Go.Proofs.YthaicofleloplaaDoorLaws.str_geq Go.Proofs.YthaicofleloplaaDoorLaws.max2_str Go.Proofs.YthaicofleloplaaDoorLaws.min2_str   -- for this text's walks alone
set_option linter.unusedVariables false
set_option linter.unusedSimpArgs false

/-! ### key_read: function 26, by hand -/
section
open Go.Shelf Go.Proofs.YthaicofleloplaaDoorRange
attribute [local go_sem] Oper.semAt_some
/-- The reading from a place on: the columns and the places before it are l and 0 :: q, the last of these is the place. -/
def key_read.l0 : Nat → ByteArray → Int → List S51 → List Int → Option (List S51 × List Int × Int)
 | 0, _, _, _, _ => none
 | k + 1, s, p, l, q => if (if p = (s.size : Int) then false else bt s p == 1) = true then (if p = wrap64 ((s.size : Int) - 1) then some (l, 0 :: q, 0) else some ([], [], 3)) else ((col_Get.f k s p).bind fun g => if g.2.2.2.2.2 = 0 then (if l.length < 1000000 then (if 0 ≤ g.2.2.2.2.1 ∧ g.2.2.2.2.1 ≤ (s.size : Int) then key_read.l0 k s g.2.2.2.2.1 (l ++ [⟨g.1, g.2.1, g.2.2.1, g.2.2.2.1⟩]) (q ++ [g.2.2.2.2.1]) else none) else none) else some ([], [], g.2.2.2.2.2))
def key_read.f (k : Nat) (a0 : ByteArray) : Option (List S51 × List Int × Int) := if a0.size ≤ 1000000 then key_read.l0 k a0 0 [] [] else none
theorem key_read.mono_l : ∀ k, (∀ y0 y1 y2 y3, LeO (key_read.l0 k y0 y1 y2 y3) (key_read.l0 (k + 1) y0 y1 y2 y3))
 | 0 => fun _ _ _ _ r h => by simp [key_read.l0] at h
 | k + 1 => by
  have ih0 := key_read.mono_l k
  intro y0 y1 y2 y3
  unfold key_read.l0
  refine LeO.ite (LeO.refl _) (LeO.bind (col_Get.mono _ _ _) (fun _ => LeO.ite (LeO.ite (LeO.ite (ih0 _ _ _ _) (LeO.refl _)) (LeO.refl _)) (LeO.refl _)))
theorem key_read.mono : ∀ a0 k, LeO (key_read.f k a0) (key_read.f (k + 1) a0) := by
 intro a0 k
 unfold key_read.f
 exact LeO.ite (key_read.mono_l k _ _ _ _) (LeO.refl _)
theorem method_val (n : Nat) (t : TypeId) (v : Value) (name : String) (f : FuncId) (q : Bool) (W : World) (h : ((Tryd.prog.info? t).bind fun i => i.methods.find? (·.name == name)).map (fun m => (m.path.toList.isEmpty, m.func)) = some (true, some (f, q))) (hr : ∀ y : Option String, (receiverAt t (.val v) q y).run Tryd.prog W = .ok v W) : (method (n + 1) t v name).run Tryd.prog W = .ok (f, v) W := by
 cases hi : Tryd.prog.info? t with
 | none => rw [hi] at h; cases h
 | some i =>
  rw [hi] at h
  cases hm : i.methods.find? (·.name == name) with
  | none => simp only [Option.bind_some, hm] at h; cases h
  | some m =>
   simp only [Option.bind_some, hm, Option.map_some, Option.some.injEq, Prod.mk.injEq, List.isEmpty_iff] at h
   obtain ⟨h1, h2⟩ := h
   simp [method, typeInfo, hi, hm, h1, h2, follow, hr, Result.andThen]
theorem receiver_struct (t : TypeId) (v : Value) (W : World) (y : Option String) (h : (match Tryd.prog.underlying t with | some (.struct _) => true | _ => false) = true) : (receiverAt t (.val v) false y).run Tryd.prog W = .ok v W := by
 cases hu : Tryd.prog.underlying t with
 | none => rw [hu] at h; cases h
 | some d =>
  rw [hu] at h
  cases d <;> simp at h
  simp [receiverAt, run_underlying hu, Place.get, Result.andThen]
theorem one_method (v : Value) (n : Nat) (W : World) : (method (n + 1) 83 v "withy/key.where").run Tryd.prog W = .ok (104, v) W :=
 method_val n _ v _ _ false W (by kernel_rfl) (fun y => receiver_struct _ v W y (by kernel_rfl))
theorem as_fault_no (v : Value) (W : World) : (Instr.typeAssert (.iface 83 v) 78 80 true).run Tryd.prog W = .ok (.tuple #[.agg #[.int .i64 0, .int .i64 0], .bool false]) W := by
 have hz : (zeroValue 80).run Tryd.prog W = .ok (.agg #[.int .i64 0, .int .i64 0]) W := by kernel_rfl
 have hu := run_underlying (P := Tryd.prog) Tryd.underlying80
 simp [Instr.typeAssert, hu, hz, go_sem]
theorem as_fault_yes (v : Value) (W : World) : (Instr.typeAssert (.iface 80 v) 78 80 true).run Tryd.prog W = .ok (.tuple #[v, .bool true]) W := by
 have hu := run_underlying (P := Tryd.prog) Tryd.underlying80
 simp [Instr.typeAssert, hu, go_sem]
theorem as_one (v : Value) (W : World) : (Instr.typeAssert (.iface 83 v) 78 83 false).run Tryd.prog W = .ok v W := by
 have hu := run_underlying (P := Tryd.prog) Tryd.underlying83
 simp [Instr.typeAssert, hu, go_sem]
theorem one_c (x0 x1 x2 x3 x4 : Value) (W : World) : (Instr.field 83 (.agg #[x0, x1, x2, x3, x4]) 0).run Tryd.prog W = .ok (.agg #[x0, x1, x2, x3]) W := by kernel_rfl
theorem key_where.calls (x0 x1 x2 : Int) (x3 : ByteArray) (n : Int) (w : World) : Calls Tryd.prog 104 #[.agg #[.int .i64 x0, .int .i64 x1, .int .u64 x2, .string x3, .int .i64 n]] w fun e w' => e = .returned (.int .i64 n) ∧ w' = w.alloc (.cells #[.int .i64 x0, .int .i64 x1, .int .u64 x2, .string x3, .int .i64 n] 83) := by
 go_enter Tryd.func104, Tryd.ntmps104
 go_wp2
 go_ret
 exact ⟨rfl, rfl⟩
theorem key_columns.calls (a0 : ByteArray) (w : World) :
  Calls Tryd.prog 45 #[.string a0] w fun e w' => e = .returned (.func (.func 56) #[] #[.pointer (some ⟨w.heap.size, 0, none⟩)]) ∧ w' = w.alloc (.cells #[.string a0] 9) := by
 go_enter Tryd.func45, Tryd.ntmps45
 go_wp2
 go_ret
 exact ⟨rfl, rfl⟩
def colCells (l : List S51) : List Value := l.flatMap fun x => [.int .i64 x.f0, .int .i64 x.f1, .int .u64 x.f2, .string x.f3]
/-- What lies in memory between two rounds: the results' boxes, the boxes of the columns and of the places, the text, the mark, the loop's record. -/
structure ReadAt (w : World) (s : ByteArray) (v0 v1 : Value) (e : Int) (l : List S51) (q : List Int) (st : Loop) (wr : World) : Prop where
 r0 : wr.heap[w.heap.size]? = some (.cells #[v0] 22 (0, 0))
 r1 : wr.heap[w.heap.size + 1]? = some (.cells #[v1] 58 (0, 0))
 r2 : wr.heap[w.heap.size + 2]? = some (.cells #[.int .i64 e] 26 (0, 0))
 lb : ∃ v, wr.heap[w.heap.size + 5]? = some (.cells #[v] 22 (0, 0)) ∧ wr.ownsRow w.heap.size 51 4 v l.length (colCells l)
 ab : ∃ v, wr.heap[w.heap.size + 6]? = some (.cells #[v] 58 (0, 0)) ∧ wr.ownsRow w.heap.size 3 1 v (q.length + 1) ((0 :: q).map (Value.int .i64))
 sb : wr.heap[w.heap.size + 7]? = some (.cells #[.string s] 9 (0, 0))
 dd : wr.heap[w.heap.size + 8]? = some (.deferred (some []))
 lp : wr.heap[w.heap.size + 9]? = some (.loop st)
 below : Below w.heap.size w wr
theorem new8 (w : World) (o0 o1 o2 o3 o4 o5 o6 o7 : Obj) {W : World} (e : (((((((w.alloc o0).alloc o1).alloc o2).alloc o3).alloc o4).alloc o5).alloc o6).alloc o7 = W) :
  W.heap.size = w.heap.size + 8 ∧ W.heap[w.heap.size]? = some o0 ∧ W.heap[w.heap.size + 1]? = some o1 ∧ W.heap[w.heap.size + 2]? = some o2 ∧ W.heap[w.heap.size + 3]? = some o3 ∧ W.heap[w.heap.size + 4]? = some o4 ∧ W.heap[w.heap.size + 5]? = some o5 ∧ W.heap[w.heap.size + 6]? = some o6 ∧ W.heap[w.heap.size + 7]? = some o7 ∧ Below w.heap.size w W := by
 subst e
 have h0 := blk_new w o0
 have h1 := blk_new (w.alloc o0) o1
 have h2 := blk_new ((w.alloc o0).alloc o1) o2
 have h3 := blk_new (((w.alloc o0).alloc o1).alloc o2) o3
 have h4 := blk_new ((((w.alloc o0).alloc o1).alloc o2).alloc o3) o4
 have h5 := blk_new (((((w.alloc o0).alloc o1).alloc o2).alloc o3).alloc o4) o5
 have h6 := blk_new ((((((w.alloc o0).alloc o1).alloc o2).alloc o3).alloc o4).alloc o5) o6
 have h7 := blk_new (((((((w.alloc o0).alloc o1).alloc o2).alloc o3).alloc o4).alloc o5).alloc o6) o7
 simp only [World.size_alloc, Nat.add_assoc, Nat.reduceAdd] at h1 h2 h3 h4 h5 h6 h7
 refine ⟨by simp only [World.size_alloc, Nat.add_assoc, Nat.reduceAdd], ?_, ?_, ?_, ?_, ?_, ?_, ?_, h7, ?_⟩
 ·repeat (first | exact h0 | refine blk_alloc ?_ _)
 ·repeat (first | exact h1 | refine blk_alloc ?_ _)
 ·repeat (first | exact h2 | refine blk_alloc ?_ _)
 ·repeat (first | exact h3 | refine blk_alloc ?_ _)
 ·repeat (first | exact h4 | refine blk_alloc ?_ _)
 ·repeat (first | exact h5 | refine blk_alloc ?_ _)
 ·exact blk_alloc h6 _
 ·repeat (first | exact Below.refl _ _ | refine below_alloc ?_ _)
theorem row_below' {W W' : World} {b e s n : Nat} {v : Value} {xs : List Value} (h : W.ownsRow b e s v n xs) (hb : Below W.heap.size W W') : W'.ownsRow b e s v n xs := by
 refine ⟨h.1, ?_⟩
 rcases h.2 with h | ⟨g, cap, cur, rfl, hg, hh, r⟩
 ·exact .inl h
 ·exact .inr ⟨g, cap, cur, rfl, hg, blk_below hh hb, r⟩
theorem row_slice {W : World} {b e s n : Nat} {v : Value} {xs : List Value} (h : W.ownsRow b e s v n xs) : ∃ A m c, v = .slice A m c := by
 rcases h.2 with ⟨rfl, _⟩ | ⟨g, cap, cur, rfl, _⟩
 ·exact ⟨_, _, _, rfl⟩
 ·exact ⟨_, _, _, rfl⟩
theorem row_ne {W : World} {b e s n k : Nat} {v : Value} {xs : List Value} {o : Obj} (h : W.ownsRow b e s v n xs) (ho : W.heap[k]? = some o) (hne : ∀ cs fz, o ≠ .cells cs e fz) : some k ≠ v.ownBlock := by
 rcases h.2 with ⟨rfl, _⟩ | ⟨g, cap, cur, rfl, hg, hh, r⟩
 ·simp [Value.ownBlock]
 ·intro e'
  obtain rfl : k = g := by simpa [Value.ownBlock] using e'
  rw [ho] at hh
  exact hne _ _ (Option.some.inj hh)
theorem row_kept {W W' : World} {b e s n : Nat} {v : Value} {xs : List Value} (h : W.ownsRow b e s v n xs) (hk : ∀ (k : Nat) (cur : Array Value), W.heap[k]? = some (Obj.cells cur e (0, 0)) → W'.heap[k]? = W.heap[k]?) : W'.ownsRow b e s v n xs := by
 refine ⟨h.1, ?_⟩
 rcases h.2 with h | ⟨g, cap, cur, rfl, hg, hh, r⟩
 ·exact .inl h
 ·exact .inr ⟨g, cap, cur, rfl, hg, (hk g _ hh).trans hh, r⟩
theorem read_putObj {w W : World} {l : Nat} (o : Obj) (h : Below w.heap.size w W) (hl : w.heap.size ≤ l) : Below w.heap.size w (W.putObj l o) :=
 ⟨h.os, h.tape, h.output, by have := h.size; simpa using this, fun k hk => (World.putObj_heap_other (by omega)).trans (h.block k hk)⟩
theorem ReadAt.keep {w : World} {s : ByteArray} {v0 v1 : Value} {e : Int} {l : List S51} {q : List Int} {st st' : Loop} {W W' : World} (h : ReadAt w s v0 v1 e l q st W) (hk : ∀ k o, W.heap[k]? = some o → k ≠ w.heap.size + 9 → W'.heap[k]? = W.heap[k]?) (hl : W'.heap[w.heap.size + 9]? = some (.loop st')) (hb : Below w.heap.size w W') : ReadAt w s v0 v1 e l q st' W' := by
 obtain ⟨v, h1, h2⟩ := h.lb
 obtain ⟨u, h3, h4⟩ := h.ab
 have ne : ∀ (k : Nat) (cur : Array Value) (ty : TypeId), W.heap[k]? = some (Obj.cells cur ty (0, 0)) → k ≠ w.heap.size + 9 := fun k cur ty hh e => by rw [e, h.lp] at hh; cases hh
 exact ⟨(hk _ _ h.r0 (by omega)).trans h.r0, (hk _ _ h.r1 (by omega)).trans h.r1, (hk _ _ h.r2 (by omega)).trans h.r2, ⟨v, (hk _ _ h1 (by omega)).trans h1, row_kept h2 fun k cur hh => hk k _ hh (ne k cur _ hh)⟩, ⟨u, (hk _ _ h3 (by omega)).trans h3, row_kept h4 fun k cur hh => hk k _ hh (ne k cur _ hh)⟩, (hk _ _ h.sb (by omega)).trans h.sb, (hk _ _ h.dd (by omega)).trans h.dd, hl, hb⟩
theorem ReadAt.drew {w : World} {s : ByteArray} {v0 v1 : Value} {e : Int} {l : List S51} {q : List Int} {st : Loop} {W : World} (h : ReadAt w s v0 v1 e l q st W) : ReadAt w s v0 v1 e l q st W.drew := h.keep (fun _ _ _ _ => rfl) h.lp (below_drew1 h.below)
theorem ReadAt.alloc {w : World} {s : ByteArray} {v0 v1 : Value} {e : Int} {l : List S51} {q : List Int} {st : Loop} {W : World} (h : ReadAt w s v0 v1 e l q st W) (o : Obj) : ReadAt w s v0 v1 e l q st (W.alloc o) := h.keep (fun k _ hh _ => Below.heap_alloc W o k (blk_lt hh)) (blk_alloc h.lp o) (below_alloc h.below o)
theorem ReadAt.put {w : World} {s : ByteArray} {v0 v1 : Value} {e : Int} {l : List S51} {q : List Int} {st st' : Loop} {W : World} (h : ReadAt w s v0 v1 e l q st W) : ReadAt w s v0 v1 e l q st' (W.putObj (w.heap.size + 9) (.loop st')) := h.keep (fun k _ _ hne => World.putObj_heap_other (by omega)) (World.putObj_heap_same (blk_lt h.lp)) (read_putObj _ h.below (by omega))
/-- A row of another kind is appended to, and its box stored. -/
theorem grow_keep {W W1 : World} {tmp : Obj} {b e s n B : Nat} {v v' : Value} {xs : List Value} (hrow : W.ownsRow b e s v n xs) (hg : (W.alloc tmp).grownBy W1 v.ownBlock) {k : Nat} {o : Obj} (ho : W.heap[k]? = some o) (hne : ∀ cs fz, o ≠ .cells cs e fz) (hB : k ≠ B) : (W1.setCell ⟨B, 0, none⟩ v').heap[k]? = W.heap[k]? := by
 have hlt := blk_lt ho
 exact (Below.heap_setCell W1 ⟨B, 0, none⟩ v' k hB).trans ((hg.block k (by rw [World.size_alloc]; omega) (row_ne hrow ho hne)).trans (Below.heap_alloc W tmp k hlt))
theorem grow_below {w W W1 : World} {tmp : Obj} {e s n B : Nat} {v v' : Value} {xs : List Value} (hb : Below w.heap.size w W) (hrow : W.ownsRow w.heap.size e s v n xs) (hg : (W.alloc tmp).grownBy W1 v.ownBlock) (hB : w.heap.size ≤ B) : Below w.heap.size w (W1.setCell ⟨B, 0, none⟩ v') := by
 refine (Below.grown (below_alloc hb tmp) hg (by rw [World.size_alloc]; have := below_size hb; omega) fun j ej => ?_).setCell (p := ⟨B, 0, none⟩) hB v'
 rcases hrow.2 with ⟨rfl, _⟩ | ⟨g, cap, cur, rfl, hb', _, _⟩
 ·simp [Value.ownBlock] at ej
 ·obtain rfl : g = j := by simpa [Value.ownBlock] using ej
  exact hb'
theorem set_row {W1 : World} {b e s n B ty : Nat} {v v' u : Value} {xs : List Value} (hrow : W1.ownsRow b e s v' n xs) (hbx : W1.heap[B]? = some (.cells #[v] ty (0, 0))) (hne : ty ≠ e) : (W1.setCell ⟨B, 0, none⟩ u).ownsRow b e s v' n xs :=
 row_kept hrow fun k cur hh => Below.heap_setCell W1 ⟨B, 0, none⟩ u k (fun (e' : k = B) => by rw [e', hbx] at hh; exact hne (by injection (Option.some.inj hh)))
theorem read_l {w W W1 : World} {s : ByteArray} {v0 v1 : Value} {e : Int} {l : List S51} {q : List Int} {st : Loop} {v v' : Value} {x : S51} {tmp : Obj} (hG : ReadAt w s v0 v1 e l q st W) (hlb : W.heap[w.heap.size + 5]? = some (.cells #[v] 22 (0, 0))) (hlo : W.ownsRow w.heap.size 51 4 v l.length (colCells l))
  (r1 : W1.ownsRow w.heap.size 51 4 v' (l.length + 1) (colCells l ++ [.int .i64 x.f0, .int .i64 x.f1, .int .u64 x.f2, .string x.f3])) (r2 : (W.alloc tmp).grownBy W1 v.ownBlock) :
  ReadAt w s v0 v1 e (l ++ [x]) q st (W1.setCell ⟨w.heap.size + 5, 0, none⟩ v') ∧ W1.cell? ⟨w.heap.size + 5, 0, none⟩ = some v ∧ W1.frozen? ⟨w.heap.size + 5, 0, none⟩ = false := by
 obtain ⟨u, h3, h4⟩ := hG.ab
 have kp : ∀ {k : Nat} {o : Obj}, W.heap[k]? = some o → (∀ cs fz, o ≠ .cells cs 51 fz) → k ≠ w.heap.size + 5 → (W1.setCell ⟨w.heap.size + 5, 0, none⟩ v').heap[k]? = some o := fun ho hne hB => (grow_keep hlo r2 ho hne hB).trans ho
 have hbx : W1.heap[w.heap.size + 5]? = some (.cells #[v] 22 (0, 0)) := by
  rw [r2.block _ (by rw [World.size_alloc]; have := blk_lt hlb; omega) (row_ne hlo hlb (by intro cs fz q; injection q; contradiction))]
  exact blk_alloc hlb tmp
 refine ⟨⟨kp hG.r0 (by intro cs fz q; injection q; contradiction) (by omega), kp hG.r1 (by intro cs fz q; injection q; contradiction) (by omega), kp hG.r2 (by intro cs fz q; injection q; contradiction) (by omega), ⟨v', blk_put hbx 0 v' rfl, ?_⟩, ⟨u, kp h3 (by intro cs fz q; injection q; contradiction) (by omega), ?_⟩, kp hG.sb (by intro cs fz q; injection q; contradiction) (by omega), kp hG.dd (by intro cs fz q; cases q) (by omega), kp hG.lp (by intro cs fz q; cases q) (by omega), grow_below hG.below hlo r2 (by omega)⟩, (blk_cell hbx 0).trans rfl, blk_frozen hbx 0⟩
 ·have e1 : colCells (l ++ [x]) = colCells l ++ [.int .i64 x.f0, .int .i64 x.f1, .int .u64 x.f2, .string x.f3] := by simp [colCells]
  rw [e1, List.length_append]
  exact set_row r1 hbx (by decide)
 ·exact row_kept h4 fun k cur hh => (grow_keep hlo r2 hh (by intro cs fz q; injection q; contradiction) (fun e' => by rw [e', hlb] at hh; injection (Option.some.inj hh); contradiction))
theorem read_q {w W W1 : World} {s : ByteArray} {v0 v1 : Value} {e : Int} {l : List S51} {q : List Int} {st : Loop} {v v' : Value} {x : Int} {tmp : Obj} (hG : ReadAt w s v0 v1 e l q st W) (hlb : W.heap[w.heap.size + 6]? = some (.cells #[v] 58 (0, 0))) (hlo : W.ownsRow w.heap.size 3 1 v (q.length + 1) ((0 :: q).map (Value.int .i64)))
  (r1 : W1.ownsRow w.heap.size 3 1 v' (q.length + 1 + 1) ((0 :: q).map (Value.int .i64) ++ [.int .i64 x])) (r2 : (W.alloc tmp).grownBy W1 v.ownBlock) :
  ReadAt w s v0 v1 e l (q ++ [x]) st (W1.setCell ⟨w.heap.size + 6, 0, none⟩ v') ∧ W1.cell? ⟨w.heap.size + 6, 0, none⟩ = some v ∧ W1.frozen? ⟨w.heap.size + 6, 0, none⟩ = false := by
 obtain ⟨u, h3, h4⟩ := hG.lb
 have kp : ∀ {k : Nat} {o : Obj}, W.heap[k]? = some o → (∀ cs fz, o ≠ .cells cs 3 fz) → k ≠ w.heap.size + 6 → (W1.setCell ⟨w.heap.size + 6, 0, none⟩ v').heap[k]? = some o := fun ho hne hB => (grow_keep hlo r2 ho hne hB).trans ho
 have hbx : W1.heap[w.heap.size + 6]? = some (.cells #[v] 58 (0, 0)) := by
  rw [r2.block _ (by rw [World.size_alloc]; have := blk_lt hlb; omega) (row_ne hlo hlb (by intro cs fz q; injection q; contradiction))]
  exact blk_alloc hlb tmp
 refine ⟨⟨kp hG.r0 (by intro cs fz q; injection q; contradiction) (by omega), kp hG.r1 (by intro cs fz q; injection q; contradiction) (by omega), kp hG.r2 (by intro cs fz q; injection q; contradiction) (by omega), ⟨u, kp h3 (by intro cs fz q; injection q; contradiction) (by omega), ?_⟩, ⟨v', blk_put hbx 0 v' rfl, ?_⟩, kp hG.sb (by intro cs fz q; injection q; contradiction) (by omega), kp hG.dd (by intro cs fz q; cases q) (by omega), kp hG.lp (by intro cs fz q; cases q) (by omega), grow_below hG.below hlo r2 (by omega)⟩, (blk_cell hbx 0).trans rfl, blk_frozen hbx 0⟩
 ·exact row_kept h4 fun k cur hh => (grow_keep hlo r2 hh (by intro cs fz q; injection q; contradiction) (fun e' => by rw [e', hlb] at hh; injection (Option.some.inj hh); contradiction))
 ·have e1 : (0 :: (q ++ [x])).map (Value.int .i64) = (0 :: q).map (Value.int .i64) ++ [.int .i64 x] := by simp
  rw [e1, List.length_append]
  exact set_row r1 hbx (by decide)
theorem ReadAt.res {w : World} {s : ByteArray} {v0 v1 : Value} {e : Int} {l : List S51} {q : List Int} {st : Loop} {W : World} (h : ReadAt w s v0 v1 e l q st W) (u0 u1 : Value) (e' : Int) : ReadAt w s u0 u1 e' l q st (((W.setCell ⟨w.heap.size, 0, none⟩ u0).setCell ⟨w.heap.size + 1, 0, none⟩ u1).setCell ⟨w.heap.size + 1 + 1, 0, none⟩ (.int .i64 e')) := by
 obtain ⟨v, h1, h2⟩ := h.lb
 obtain ⟨u, h3, h4⟩ := h.ab
 have kp : ∀ k : Nat, k ≠ w.heap.size → k ≠ w.heap.size + 1 → k ≠ w.heap.size + 1 + 1 → (((W.setCell ⟨w.heap.size, 0, none⟩ u0).setCell ⟨w.heap.size + 1, 0, none⟩ u1).setCell ⟨w.heap.size + 1 + 1, 0, none⟩ (.int .i64 e')).heap[k]? = W.heap[k]? := fun k a b c =>
  (Below.heap_setCell _ ⟨w.heap.size + 1 + 1, 0, none⟩ _ k c).trans ((Below.heap_setCell _ ⟨w.heap.size + 1, 0, none⟩ _ k b).trans (Below.heap_setCell _ ⟨w.heap.size, 0, none⟩ _ k a))
 have kr : ∀ (k : Nat) (cur : Array Value) (ty : TypeId), ty ≠ 22 → ty ≠ 58 → ty ≠ 26 → W.heap[k]? = some (Obj.cells cur ty (0, 0)) → (((W.setCell ⟨w.heap.size, 0, none⟩ u0).setCell ⟨w.heap.size + 1, 0, none⟩ u1).setCell ⟨w.heap.size + 1 + 1, 0, none⟩ (.int .i64 e')).heap[k]? = W.heap[k]? := fun k cur ty n1 n2 n3 hh =>
  kp k (fun e => by rw [e, h.r0] at hh; injection (Option.some.inj hh) with _ q; exact n1 q.symm) (fun e => by rw [e, h.r1] at hh; injection (Option.some.inj hh) with _ q; exact n2 q.symm) (fun e => by rw [e, show w.heap.size + 1 + 1 = w.heap.size + 2 from rfl, h.r2] at hh; injection (Option.some.inj hh) with _ q; exact n3 q.symm)
 have b0 : (W.setCell ⟨w.heap.size, 0, none⟩ u0).heap[w.heap.size]? = some (.cells #[u0] 22 (0, 0)) := blk_put h.r0 0 u0 rfl
 have b1 : (W.setCell ⟨w.heap.size, 0, none⟩ u0).heap[w.heap.size + 1]? = some (.cells #[v1] 58 (0, 0)) := (Below.heap_setCell _ ⟨w.heap.size, 0, none⟩ _ _ (by show w.heap.size + 1 ≠ w.heap.size; omega)).trans h.r1
 have b2 : (W.setCell ⟨w.heap.size, 0, none⟩ u0).heap[w.heap.size + 1 + 1]? = some (.cells #[.int .i64 e] 26 (0, 0)) := (Below.heap_setCell _ ⟨w.heap.size, 0, none⟩ _ _ (by show w.heap.size + 1 + 1 ≠ w.heap.size; omega)).trans h.r2
 have c1 : ((W.setCell ⟨w.heap.size, 0, none⟩ u0).setCell ⟨w.heap.size + 1, 0, none⟩ u1).heap[w.heap.size + 1]? = some (.cells #[u1] 58 (0, 0)) := blk_put b1 0 u1 rfl
 have c2 : ((W.setCell ⟨w.heap.size, 0, none⟩ u0).setCell ⟨w.heap.size + 1, 0, none⟩ u1).heap[w.heap.size + 1 + 1]? = some (.cells #[.int .i64 e] 26 (0, 0)) := (Below.heap_setCell _ ⟨w.heap.size + 1, 0, none⟩ _ _ (by show w.heap.size + 1 + 1 ≠ w.heap.size + 1; omega)).trans b2
 refine ⟨?_, ?_, blk_put c2 0 _ rfl, ⟨v, (kp _ (by omega) (by omega) (by omega)).trans h1, row_kept h2 fun k cur hh => kr k cur _ (by decide) (by decide) (by decide) hh⟩, ⟨u, (kp _ (by omega) (by omega) (by omega)).trans h3, row_kept h4 fun k cur hh => kr k cur _ (by decide) (by decide) (by decide) hh⟩, (kp _ (by omega) (by omega) (by omega)).trans h.sb, (kp _ (by omega) (by omega) (by omega)).trans h.dd, (kp _ (by omega) (by omega) (by omega)).trans h.lp, ?_⟩
 ·exact (Below.heap_setCell _ ⟨w.heap.size + 1 + 1, 0, none⟩ _ _ (by show w.heap.size ≠ w.heap.size + 1 + 1; omega)).trans ((Below.heap_setCell _ ⟨w.heap.size + 1, 0, none⟩ _ _ (by show w.heap.size ≠ w.heap.size + 1; omega)).trans b0)
 ·exact (Below.heap_setCell _ ⟨w.heap.size + 1 + 1, 0, none⟩ _ _ (by show w.heap.size + 1 ≠ w.heap.size + 1 + 1; omega)).trans c1
 ·exact ((h.below.setCell (p := ⟨w.heap.size, 0, none⟩) (Nat.le_refl _) _).setCell (p := ⟨w.heap.size + 1, 0, none⟩) (by show w.heap.size ≤ w.heap.size + 1; omega) _).setCell (p := ⟨w.heap.size + 1 + 1, 0, none⟩) (by show w.heap.size ≤ w.heap.size + 1 + 1; omega) _
def read_len (g : Nat) (wr : World) : Nat := match wr.cell? ⟨g, 0, none⟩ with | some (.slice _ n _) => n | _ => 0
theorem ReadAt.len {w : World} {s : ByteArray} {v0 v1 : Value} {e : Int} {l : List S51} {q : List Int} {st : Loop} {W : World} (h : ReadAt w s v0 v1 e l q st W) : read_len (w.heap.size + 5) W = l.length := by
 obtain ⟨v, h1, h2⟩ := h.lb
 have hc : W.cell? ⟨w.heap.size + 5, 0, none⟩ = some v := blk_cell h1 0
 unfold read_len
 rw [hc]
 rcases h2.2 with ⟨rfl, hn⟩ | ⟨g, cap, cur, rfl, _⟩
 ·exact hn.symm
 ·rfl
theorem ReadAt.belowW {w : World} {s : ByteArray} {v0 v1 : Value} {e : Int} {l : List S51} {q : List Int} {st : Loop} {W W' : World} (h : ReadAt w s v0 v1 e l q st W) (hb : Below W.heap.size W W') : ReadAt w s v0 v1 e l q st W' := h.keep (fun k o hh _ => (blk_below hh hb).trans hh.symm) (blk_below h.lp hb) (below_step h.below hb)
theorem read_results {fn : Func} {p q s : Tmp} (h : fn.results = #[.cell p 22, .cell q 58, .cell s 26]) (tmps : Array Value) (w : World) {a1 a2 a3 : Addr} {v1 v2 v3 : Value} (hp : tmps.getD p undef = .pointer (some a1)) (hq : tmps.getD q undef = .pointer (some a2)) (hs : tmps.getD s undef = .pointer (some a3)) (c1 : w.cell? a1 = some v1) (c2 : w.cell? a2 = some v2) (c3 : w.cell? a3 = some v3) :
  (results fn tmps).run Tryd.prog w = .ok (.tuple #[v1, v2, v3]) w := by
 have u1 := Tryd.underlying22
 have u2 := Tryd.underlying58
 have u3 := Tryd.underlying26
 simp only [Array.getD_eq_getD_getElem?] at hp hq hs
 simp only [results, h]
 simp [Sem.run_bind, Result.andThen, asAddr, hp, hq, hs, loadVar, u1, u2, u3, go_sem, c1, c2, c3]
theorem ReadAt.leave {w : World} {s : ByteArray} {v0 v1 : Value} {e : Int} {l : List S51} {q : List Int} {st : Loop} {W : World} (h : ReadAt w s v0 v1 e l q st W) :
  (W.putObj (w.heap.size + 8) (.deferred none)).cell? ⟨w.heap.size, 0, none⟩ = some v0 ∧ (W.putObj (w.heap.size + 8) (.deferred none)).cell? ⟨w.heap.size + 1, 0, none⟩ = some v1 ∧ (W.putObj (w.heap.size + 8) (.deferred none)).cell? ⟨w.heap.size + 1 + 1, 0, none⟩ = some (.int .i64 e) ∧ Below w.heap.size w (W.putObj (w.heap.size + 8) (.deferred none)) ∧
   (∀ ty sz v n xs, W.ownsRow w.heap.size ty sz v n xs → (W.putObj (w.heap.size + 8) (.deferred none)).ownsRow w.heap.size ty sz v n xs) := by
 have p5 : ∀ k, k ≠ w.heap.size + 8 → (W.putObj (w.heap.size + 8) (.deferred none)).heap[k]? = W.heap[k]? := fun k hk => World.putObj_heap_other (by omega)
 exact ⟨blk_cell ((p5 _ (by omega)).trans h.r0) 0, blk_cell ((p5 _ (by omega)).trans h.r1) 0, blk_cell ((p5 _ (by omega)).trans h.r2) 0, read_putObj _ h.below (by omega), fun ty sz v n xs hr => row_kept hr fun k cur hh => p5 k (fun e => by rw [e, h.dd] at hh; cases hh)⟩
theorem ReadAt.resrow {w : World} {s : ByteArray} {v0 v1 : Value} {e : Int} {l : List S51} {q : List Int} {st : Loop} {W : World} (h : ReadAt w s v0 v1 e l q st W) (u0 u1 : Value) (e' : Int) {b ty sz n : Nat} {v : Value} {xs : List Value} (n1 : ty ≠ 22) (n2 : ty ≠ 58) (n3 : ty ≠ 26) (hr : W.ownsRow b ty sz v n xs) : (((W.setCell ⟨w.heap.size, 0, none⟩ u0).setCell ⟨w.heap.size + 1, 0, none⟩ u1).setCell ⟨w.heap.size + 1 + 1, 0, none⟩ (.int .i64 e')).ownsRow b ty sz v n xs := by
 have kp : ∀ k : Nat, k ≠ w.heap.size → k ≠ w.heap.size + 1 → k ≠ w.heap.size + 1 + 1 → (((W.setCell ⟨w.heap.size, 0, none⟩ u0).setCell ⟨w.heap.size + 1, 0, none⟩ u1).setCell ⟨w.heap.size + 1 + 1, 0, none⟩ (.int .i64 e')).heap[k]? = W.heap[k]? := fun k a b c =>
  (Below.heap_setCell _ ⟨w.heap.size + 1 + 1, 0, none⟩ _ k c).trans ((Below.heap_setCell _ ⟨w.heap.size + 1, 0, none⟩ _ k b).trans (Below.heap_setCell _ ⟨w.heap.size, 0, none⟩ _ k a))
 exact row_kept hr fun k cur hh => kp k (fun e => by rw [e, h.r0] at hh; injection (Option.some.inj hh) with _ q; exact n1 q.symm) (fun e => by rw [e, h.r1] at hh; injection (Option.some.inj hh) with _ q; exact n2 q.symm) (fun e => by rw [e, show w.heap.size + 1 + 1 = w.heap.size + 2 from rfl, h.r2] at hh; injection (Option.some.inj hh) with _ q; exact n3 q.symm)
theorem reps_col {M : S51 → List Value → Prop} (hM : ∀ x : S51, M x [.int .i64 x.f0, .int .i64 x.f1, .int .u64 x.f2, .string x.f3]) : ∀ l, Reps M 4 l (colCells l)
 | [] => Reps.none _ _
 | x :: l => by
  have ih := reps_col hM l
  refine ⟨by have := ih.1; simp only [colCells, List.flatMap_cons, List.length_append, List.length_cons, List.length_nil] at this ⊢; omega, fun j p hj => ?_⟩
  cases j with
  | zero =>
   obtain rfl : x = p := by simpa using hj
   exact hM x
  | succ j =>
   have := ih.2 j p (by simpa using hj)
   rw [show (j + 1) * 4 = j * 4 + 1 + 1 + 1 + 1 from by omega]
   exact this
/-- An append in a region whose order is open. -/
theorem operIn_append {F : Fence} {n : Nat} {P : Program} {w : World} {o : Oper} {a : Act} {K : Act → World → Prop} {Q : Exit → Act → World → Prop} (s x : Operand) (t : TypeId) (hop : o.op = Op.call { callee := Callee.builtin Builtin.append, args := #[s, x], argTypes := #[t, t] }) (v1 v2 v' : Value) (w' : World) (h1 : a.eval s = v1) (h2 : a.eval x = v2)
  (hrun : (Builtin.append_ #[t, t] o.type #[v1, v2]).run P w = .ok v' w') (hK : K (a.put o.dst v') w') : Oper.wpIn F n P o a w K Q := by
 unfold Oper.wpIn
 refine ⟨?_, ?_⟩
 ·simp [Oper.about, hop, resolve, Target.leads, Sem.run_pure]
 ·rw [Oper.semAt_plain F _ _ (by rw [hop]; intro c hc'; cases hc')]
  simp [execOp, hop, resolve, invoke, builtin, h1, h2, hrun, Result.andThen]
  exact hK
set_option maxHeartbeats 4000000 in
set_option maxRecDepth 100000 in
theorem key_read.calls (k : Nat) (a0 : ByteArray) (r1 : List S51) (r2 : List Int) (r3 : Int) (w : World) (h : key_read.f k a0 = some (r1, r2, r3)) :
  Calls Tryd.prog 26 #[.string a0] w fun e w' => ∃ v0_ v1_ : Value, e = .returned (.tuple #[v0_, v1_, .int .i64 r3]) ∧ Kd.R k51 51 w' w.heap.size (fun _ => True) v0_ r1 ∧ Kd.R (Kd.int .i64) 3 w' w.heap.size (fun _ => True) v1_ r2 ∧ Below w.heap.size w w' := by
 unfold key_read.f at h
 refine (callsIn_wide (n := 9)).1 ?_
 refine callsIn_of_wp_marks Tryd.func26 rfl trivial ?_ rfl
 simp only [Tryd.ntmps26, List.size_toArray, List.length_cons, List.length_nil, Nat.reduceAdd, Nat.reduceSub, Array.replicate_succ, Array.replicate_zero, List.push_toArray, List.append_toArray, List.nil_append, List.cons_append]
 gi_wp2_with (refine ⟨trivial, ?_⟩; gi_at_call 45; refine (callsIn_wide.2 (key_columns.calls a0 _)).mono ?_; rintro e w' ⟨rfl, rfl⟩)
 (try simp only [World.size_alloc])
 obtain ⟨W0, hW0⟩ : ∃ W0, (((((((w.alloc (.cells #[.slice none 0 0] 22)).alloc (.cells #[.slice none 0 0] 58)).alloc (.cells #[.int .i64 0] 26)).alloc (.cells #[] 51)).alloc (.cells #[.int .i64 0] 3)).alloc (.cells #[.slice (some ⟨w.heap.size + 1 + 1 + 1, 0, none⟩) 0 0] 22)).alloc (.cells #[.slice (some ⟨w.heap.size + 1 + 1 + 1 + 1, 0, none⟩) 1 1] 58)).alloc (.cells #[.string a0] 9) = W0 := ⟨_, rfl⟩
 rw [hW0]
 obtain ⟨hz, b0, b1, b2, b3, b4, b5, b6, b7, bel0⟩ := new8 _ _ _ _ _ _ _ _ _ hW0
 clear hW0
 refine rangeFunc_walk (gf := 56) (lb := #[.pointer (some ⟨w.heap.size + 7, 0, none⟩)]) rfl (by decide) rfl trivial (enters_of Tryd.func56 (by kernel_rfl) rfl) ?_
 intro rec hY
 rw [hz] at hY ⊢
 have hG0 : ReadAt w a0 (.slice none 0 0) (.slice none 0 0) 0 [] [] (rec .ready none) ((W0.alloc (.deferred (some []))).alloc (.loop (rec .ready none))) := by
  have n1 := blk_new W0 (.deferred (some []))
  have n2 := blk_new (W0.alloc (.deferred (some []))) (.loop (rec .ready none))
  rw [World.size_alloc, hz] at n2
  rw [hz] at n1
  exact ⟨blk_alloc (blk_alloc b0 _) _, blk_alloc (blk_alloc b1 _) _, blk_alloc (blk_alloc b2 _) _, ⟨_, blk_alloc (blk_alloc b5 _) _, ⟨by simp [colCells], .inr ⟨w.heap.size + 3, 0, #[], rfl, by omega, blk_alloc (blk_alloc b3 _) _, by simp, by simp [maxLen], rfl, rfl⟩⟩⟩, ⟨_, blk_alloc (blk_alloc b6 _) _, ⟨rfl, .inr ⟨w.heap.size + 4, 1, #[.int .i64 0], rfl, by omega, blk_alloc (blk_alloc b4 _) _, by simp, by simp [maxLen], rfl, rfl⟩⟩⟩, blk_alloc (blk_alloc b7 _) _, blk_alloc n1 _, n2, below_alloc (below_alloc bel0 _) _⟩
 clear b0 b1 b2 b3 b4 b5 b6 b7 bel0
 generalize (W0.alloc (.deferred (some []))).alloc (.loop (rec .ready none)) = W1 at hG0 ⊢
 have hOk : ∀ (wr : World) (l : List S51) (q : List Int) (x0 x1 x2 : Int) (x3 : ByteArray) (nx : Int), ReadAt w a0 (.slice none 0 0) (.slice none 0 0) 0 l q (rec .ready none) wr → l.length < 1000000 → q.length < 1000001 →
   YieldAt Fence.wide 7 Tryd.prog (w.heap.size + 8 + 1) #[.iface 83 (.agg #[.int .i64 x0, .int .i64 x1, .int .u64 x2, .string x3, .int .i64 nx])] wr fun e W' => e = .returned (.bool true) ∧ ReadAt w a0 (.slice none 0 0) (.slice none 0 0) 0 (l ++ [⟨x0, x1, x2, x3⟩]) (q ++ [nx]) (rec .ready none) W' := by
  intro wr l q x0 x1 x2 x3 nx hG hl hq
  refine hY wr _ _ rfl hG.lp ?_
  simp only [List.zip_toArray, List.zip_cons_cons, List.zip_nil_right, List.zip_nil_left, List.foldl_toArray', List.foldl_cons, List.foldl_nil, List.setIfInBounds_toArray, List.set_cons_zero, List.set_cons_succ, List.size_toArray, List.length_cons, List.length_nil, Nat.reduceAdd]
  gi_wp2
  refine ⟨hG.lp, ?_⟩
  have as1 := as_fault_no
  have as2 := as_one
  have as3 := one_c
  gi_wp2
  obtain ⟨W3, hW3⟩ : ∃ W3, (wr.putObj (w.heap.size + 8 + 1) (.loop (rec .busy none))).alloc (.cells #[.int .i64 0, .int .i64 0] 80) = W3 := ⟨_, rfl⟩
  have hG3 : ReadAt w a0 (.slice none 0 0) (.slice none 0 0) 0 l q (rec .busy none) W3 := by
   rw [← hW3]
   exact (hG.put (st' := rec .busy none)).alloc _
  rw [hW3]
  clear hW3 hG as1
  obtain ⟨g5, hg5⟩ : ∃ g5, g5 = w.heap.size + 1 + 1 + 1 + 1 + 1 := ⟨_, rfl⟩
  obtain ⟨g6, hg6⟩ : ∃ g6, g6 = w.heap.size + 1 + 1 + 1 + 1 + 1 + 1 := ⟨_, rfl⟩
  rw [← hg6, ← hg5]
  obtain ⟨v, lb, lo⟩ := hG3.lb
  obtain ⟨vA, vn, vc, rfl⟩ := row_slice lo
  obtain ⟨i1, hi1, hz1, hz2, hz3⟩ := info_parts (show (Tryd.prog.info? 51).map (fun i => (i.zero, i.size, i.bytes)) = some (some (.agg #[.int .i64 0, .int .i64 0, .int .u64 0, .string ⟨#[]⟩]), 4, 40) by kernel_rfl)
  have hlo : W3.drew.ownsRow w.heap.size 51 4 (.slice vA vn vc) l.length (colCells l) := lo
  have hbase : w.heap.size ≤ W3.heap.size := below_size hG3.below
  obtain ⟨v', W4, hrun, r1, r2, r3, r4⟩ := run_append_own_at (P := Tryd.prog) (w := W3.drew.alloc (.cells #[.int .i64 x0, .int .i64 x1, .int .u64 x2, .string x3] 51)) w.heap.size 22 22 51 i1 _ 4 40 Tryd.underlying22 hi1 hz1 hz2 hz3 rfl (by decide) (.slice vA vn vc) l.length (colCells l) (hlo.alloc _) ⟨W3.drew.heap.size, 0, none⟩ 1 1 [.int .i64 x0, .int .i64 x1, .int .u64 x2, .string x3] rfl (by
   intro j u hj
   have hb := blk_new W3.drew (.cells #[.int .i64 x0, .int .i64 x1, .int .u64 x2, .string x3] 51)
   have e : (⟨W3.drew.heap.size, 0, none⟩ : Addr).add j = ⟨W3.drew.heap.size, j, none⟩ := by simp [Addr.add] <;> omega
   rw [e, blk_cell hb j]
   simpa using hj) (by simp [Value.oneCell']) (by show l.length + 1 ≤ 9223372036854775807; omega) (by omega) (by rw [World.size_alloc]; show w.heap.size ≤ W3.heap.size + 1; omega)
  obtain ⟨hG5, c6, f6⟩ := read_l (x := ⟨x0, x1, x2, x3⟩) hG3.drew lb hlo r1 r2
  obtain ⟨vA', vn', vc', rfl⟩ := row_slice r1
  have s5 : w.heap.size + 5 = g5 := by omega
  have s6 : w.heap.size + 6 = g6 := by omega
  rw [s5] at hG5 c6 f6 lb
  have c5d : W3.drew.cell? ⟨g5, 0, none⟩ = some (.slice vA vn vc) := blk_cell lb 0
  have c5e : (W3.alloc (.cells #[.int .i64 x0, .int .i64 x1, .int .u64 x2, .string x3] 51)).cell? ⟨g5, 0, none⟩ = some (.slice vA vn vc) := blk_cell (blk_alloc (w := W3) lb _) 0
  have f5d : W3.drew.frozen? ⟨g5, 0, none⟩ = false := blk_frozen lb 0
  have HS := as_ (⟨s5, s6⟩ : w.heap.size + 5 = g5 ∧ w.heap.size + 6 = g6)
  clear hY h hg5 hg6 r1 r2 r3 r4 hlo hz1 hz2 hz3 hi1 lb lo hG3 s5 s6
  obtain ⟨gl, hgl⟩ : ∃ gl, gl = w.heap.size + 8 + 1 := ⟨_, rfl⟩
  rw [← hgl]
  have HL := Aside0.mk hgl
  clear hgl
  generalize Value.tuple _ = vt
  generalize Value.func (.func 56) _ _ = fv
  generalize Value.slice (some ⟨w.heap.size + 1 + 1 + 1 + 1, 0, none⟩) 1 1 = s11
  generalize Value.slice (some ⟨w.heap.size + 1 + 1 + 1, 0, none⟩) 0 0 = s10
  refine wpIn_mono (Q := fun e a W' => e = .normal ∧ (∃ u1 u2 u3 u4 u5 u6 : Value, a = { tmps := #[.string a0, undef, .pointer (some ⟨w.heap.size, 0, none⟩), .pointer (some ⟨w.heap.size + 1, 0, none⟩), .pointer (some ⟨w.heap.size + 1 + 1, 0, none⟩), .pointer (some ⟨g5, 0, none⟩), .pointer (some ⟨g6, 0, none⟩), .iface 83 (.agg #[.int .i64 x0, .int .i64 x1, .int .u64 x2, .string x3, .int .i64 nx]), .pointer (some ⟨wr.heap.size, 0, none⟩), .bool false, s10, s11, .string a0, fv, .iface 83 (.agg #[.int .i64 x0, .int .i64 x1, .int .u64 x2, .string x3, .int .i64 nx]), vt, .iface 83 (.agg #[.int .i64 x0, .int .i64 x1, .int .u64 x2, .string x3, .int .i64 nx]), vt, .agg #[.int .i64 0, .int .i64 0], .bool false, .bool false, undef, undef, u1, u2, u3, u4, u5, u6, undef, undef, undef, undef, undef, undef, undef, undef, undef, undef, undef, undef, undef, undef, undef, undef, undef], defers := [] }) ∧ W' = W4.setCell ⟨g5, 0, none⟩ (.slice vA' vn' vc')) ?_ ?_
  ·refine wpIn_region_any (by kernel_rfl) ?_
   try (change wpAnyIn _ _ _ _ _ _ _ _ _ (World.drew _))
   refine wpAnyIn_ready (rs := [0, 1]) (by kernel_rfl) (by simp) ?_
   refine AllReadyIn.cons rfl (fun K hK => ?_) (AllReadyIn.cons rfl (fun K hK => ?_) AllReadyIn.nil)
   ·go_simp
    refine hK _ _ ?_
    clear hK K
    refine wpAnyIn_ready (rs := [1]) (by kernel_rfl) (by simp) ?_
    refine AllReadyIn.cons rfl (fun K hK => ?_) AllReadyIn.nil
    go_simp
    refine hK _ _ ?_
    clear hK K
    refine wpAnyIn_ready (rs := [2]) (by kernel_rfl) (by simp) ?_
    refine AllReadyIn.cons rfl (fun K hK => ?_) AllReadyIn.nil
    go_simp
    refine hK _ _ ?_
    clear hK K
    refine wpAnyIn_ready (rs := [3]) (by kernel_rfl) (by simp) ?_
    refine AllReadyIn.cons rfl (fun K hK => ?_) AllReadyIn.nil
    go_simp
    refine hK _ _ ?_
    clear hK K
    refine wpAnyIn_ready (rs := [4]) (by kernel_rfl) (by simp) ?_
    refine AllReadyIn.cons rfl (fun K hK => ?_) AllReadyIn.nil
    go_simp
    refine hK _ _ ?_
    clear hK K
    refine wpAnyIn_ready (rs := [5]) (by kernel_rfl) (by simp) ?_
    refine AllReadyIn.cons rfl (fun K hK => ?_) AllReadyIn.nil
    rw [if_pos (by kernel_rfl)]
    refine operIn_append (.tmp 23) (.tmp 27) 22 rfl (.slice vA vn vc) (.slice (some ⟨W3.heap.size, 0, none⟩) 1 1) _ _ rfl rfl hrun (hK _ _ ?_)
    clear hK K
    refine wpAnyIn_ready (rs := [6]) (by kernel_rfl) (by simp) ?_
    refine AllReadyIn.cons rfl (fun K hK => ?_) AllReadyIn.nil
    go_simp
    refine hK _ _ ?_
    clear hK K
    refine wpAnyIn_done (by kernel_rfl) ?_ _
    exact ⟨rfl, ⟨_, _, _, _, _, _, rfl⟩, rfl⟩
   ·go_simp
    refine hK _ _ ?_
    clear hK K
    refine wpAnyIn_ready (rs := [0, 2]) (by kernel_rfl) (by simp) ?_
    refine AllReadyIn.cons rfl (fun K hK => ?_) (AllReadyIn.cons rfl (fun K hK => ?_) AllReadyIn.nil)
    ·go_simp
     refine hK _ _ ?_
     clear hK K
     refine wpAnyIn_ready (rs := [2]) (by kernel_rfl) (by simp) ?_
     refine AllReadyIn.cons rfl (fun K hK => ?_) AllReadyIn.nil
     go_simp
     refine hK _ _ ?_
     clear hK K
     refine wpAnyIn_ready (rs := [3]) (by kernel_rfl) (by simp) ?_
     refine AllReadyIn.cons rfl (fun K hK => ?_) AllReadyIn.nil
     go_simp
     refine hK _ _ ?_
     clear hK K
     refine wpAnyIn_ready (rs := [4]) (by kernel_rfl) (by simp) ?_
     refine AllReadyIn.cons rfl (fun K hK => ?_) AllReadyIn.nil
     go_simp
     refine hK _ _ ?_
     clear hK K
     refine wpAnyIn_ready (rs := [5]) (by kernel_rfl) (by simp) ?_
     refine AllReadyIn.cons rfl (fun K hK => ?_) AllReadyIn.nil
     rw [if_pos (by kernel_rfl)]
     refine operIn_append (.tmp 23) (.tmp 27) 22 rfl (.slice vA vn vc) (.slice (some ⟨W3.heap.size, 0, none⟩) 1 1) _ _ rfl rfl hrun (hK _ _ ?_)
     clear hK K
     refine wpAnyIn_ready (rs := [6]) (by kernel_rfl) (by simp) ?_
     refine AllReadyIn.cons rfl (fun K hK => ?_) AllReadyIn.nil
     go_simp
     refine hK _ _ ?_
     clear hK K
     refine wpAnyIn_done (by kernel_rfl) ?_ _
     exact ⟨rfl, ⟨_, _, _, _, _, _, rfl⟩, rfl⟩
    ·go_simp
     refine hK _ _ ?_
     clear hK K
     refine wpAnyIn_ready (rs := [0, 3]) (by kernel_rfl) (by simp) ?_
     refine AllReadyIn.cons rfl (fun K hK => ?_) (AllReadyIn.cons rfl (fun K hK => ?_) AllReadyIn.nil)
     ·go_simp
      refine hK _ _ ?_
      clear hK K
      refine wpAnyIn_ready (rs := [3]) (by kernel_rfl) (by simp) ?_
      refine AllReadyIn.cons rfl (fun K hK => ?_) AllReadyIn.nil
      go_simp
      refine hK _ _ ?_
      clear hK K
      refine wpAnyIn_ready (rs := [4]) (by kernel_rfl) (by simp) ?_
      refine AllReadyIn.cons rfl (fun K hK => ?_) AllReadyIn.nil
      go_simp
      refine hK _ _ ?_
      clear hK K
      refine wpAnyIn_ready (rs := [5]) (by kernel_rfl) (by simp) ?_
      refine AllReadyIn.cons rfl (fun K hK => ?_) AllReadyIn.nil
      rw [if_pos (by kernel_rfl)]
      refine operIn_append (.tmp 23) (.tmp 27) 22 rfl (.slice vA vn vc) (.slice (some ⟨W3.heap.size, 0, none⟩) 1 1) _ _ rfl rfl hrun (hK _ _ ?_)
      clear hK K
      refine wpAnyIn_ready (rs := [6]) (by kernel_rfl) (by simp) ?_
      refine AllReadyIn.cons rfl (fun K hK => ?_) AllReadyIn.nil
      go_simp
      refine hK _ _ ?_
      clear hK K
      refine wpAnyIn_done (by kernel_rfl) ?_ _
      exact ⟨rfl, ⟨_, _, _, _, _, _, rfl⟩, rfl⟩
     ·go_simp
      refine hK _ _ ?_
      clear hK K
      refine wpAnyIn_ready (rs := [0, 4]) (by kernel_rfl) (by simp) ?_
      refine AllReadyIn.cons rfl (fun K hK => ?_) (AllReadyIn.cons rfl (fun K hK => ?_) AllReadyIn.nil)
      ·go_simp
       refine hK _ _ ?_
       clear hK K
       refine wpAnyIn_ready (rs := [4]) (by kernel_rfl) (by simp) ?_
       refine AllReadyIn.cons rfl (fun K hK => ?_) AllReadyIn.nil
       go_simp
       refine hK _ _ ?_
       clear hK K
       refine wpAnyIn_ready (rs := [5]) (by kernel_rfl) (by simp) ?_
       refine AllReadyIn.cons rfl (fun K hK => ?_) AllReadyIn.nil
       rw [if_pos (by kernel_rfl)]
       refine operIn_append (.tmp 23) (.tmp 27) 22 rfl (.slice vA vn vc) (.slice (some ⟨W3.heap.size, 0, none⟩) 1 1) _ _ rfl rfl hrun (hK _ _ ?_)
       clear hK K
       refine wpAnyIn_ready (rs := [6]) (by kernel_rfl) (by simp) ?_
       refine AllReadyIn.cons rfl (fun K hK => ?_) AllReadyIn.nil
       go_simp
       refine hK _ _ ?_
       clear hK K
       refine wpAnyIn_done (by kernel_rfl) ?_ _
       exact ⟨rfl, ⟨_, _, _, _, _, _, rfl⟩, rfl⟩
      ·go_simp
       refine hK _ _ ?_
       clear hK K
       refine wpAnyIn_ready (rs := [0]) (by kernel_rfl) (by simp) ?_
       refine AllReadyIn.cons rfl (fun K hK => ?_) AllReadyIn.nil
       go_simp
       refine hK _ _ ?_
       clear hK K
       refine wpAnyIn_ready (rs := [5]) (by kernel_rfl) (by simp) ?_
       refine AllReadyIn.cons rfl (fun K hK => ?_) AllReadyIn.nil
       rw [if_pos (by kernel_rfl)]
       refine operIn_append (.tmp 23) (.tmp 27) 22 rfl (.slice vA vn vc) (.slice (some ⟨W3.heap.size, 0, none⟩) 1 1) _ _ rfl rfl hrun (hK _ _ ?_)
       clear hK K
       refine wpAnyIn_ready (rs := [6]) (by kernel_rfl) (by simp) ?_
       refine AllReadyIn.cons rfl (fun K hK => ?_) AllReadyIn.nil
       go_simp
       refine hK _ _ ?_
       clear hK K
       refine wpAnyIn_done (by kernel_rfl) ?_ _
       exact ⟨rfl, ⟨_, _, _, _, _, _, rfl⟩, rfl⟩
  ·rintro e a W' ⟨rfl, ⟨u1, u2, u3, u4, u5, u6, rfl⟩, rfl⟩
   gi_wp2
   generalize W4.setCell ⟨g5, 0, none⟩ (.slice vA' vn' vc') = W5 at hG5 ⊢
   obtain ⟨v, qb, qo⟩ := hG5.ab
   obtain ⟨bA, bn, bc, rfl⟩ := row_slice qo
   obtain ⟨i1, hi1, hz1, hz2, hz3⟩ := info_parts (show (Tryd.prog.info? 3).map (fun i => (i.zero, i.size, i.bytes)) = some (some (.int .i64 0), 1, 8) by kernel_rfl)
   have hG6 := hG5.drew.alloc (.cells #[.int .i64 x0, .int .i64 x1, .int .u64 x2, .string x3, .int .i64 nx] 83)
   have qb6 : (W5.drew.alloc (.cells #[.int .i64 x0, .int .i64 x1, .int .u64 x2, .string x3, .int .i64 nx] 83)).heap[w.heap.size + 6]? = some (.cells #[.slice bA bn bc] 58 (0, 0)) := blk_alloc (w := W5.drew) qb _
   have qo6 : (W5.drew.alloc (.cells #[.int .i64 x0, .int .i64 x1, .int .u64 x2, .string x3, .int .i64 nx] 83)).ownsRow w.heap.size 3 1 (.slice bA bn bc) (q.length + 1) ((0 :: q).map (Value.int .i64)) := World.ownsRow.alloc (w := W5.drew) qo _
   have hbase5 : w.heap.size ≤ W5.heap.size := below_size hG5.below
   obtain ⟨v', W7, hrun8, r1, r2, r3, r4⟩ := run_append_own_at (P := Tryd.prog) (w := (W5.drew.alloc (.cells #[.int .i64 x0, .int .i64 x1, .int .u64 x2, .string x3, .int .i64 nx] 83)).alloc (.cells #[.int .i64 nx] 3)) w.heap.size 58 58 3 i1 _ 1 8 Tryd.underlying58 hi1 hz1 hz2 hz3 rfl (by decide) (.slice bA bn bc) (q.length + 1) ((0 :: q).map (Value.int .i64)) (qo6.alloc _) ⟨W5.heap.size + 1, 0, none⟩ 1 1 [.int .i64 nx] rfl (by
    have hs : (W5.drew.alloc (.cells #[.int .i64 x0, .int .i64 x1, .int .u64 x2, .string x3, .int .i64 nx] 83)).heap.size = W5.heap.size + 1 := by rw [World.size_alloc]; rfl
    have hb := blk_new (W5.drew.alloc (.cells #[.int .i64 x0, .int .i64 x1, .int .u64 x2, .string x3, .int .i64 nx] 83)) (.cells #[.int .i64 nx] 3)
    rw [hs] at hb
    intro j u hj
    have e : (⟨W5.heap.size + 1, 0, none⟩ : Addr).add j = ⟨W5.heap.size + 1, j, none⟩ := by simp [Addr.add] <;> omega
    rw [e, blk_cell hb j]
    simpa using hj) (by simp [Value.oneCell']) (by show q.length + 1 + 1 ≤ 9223372036854775807; omega) (by omega) (by rw [World.size_alloc, World.size_alloc]; show w.heap.size ≤ W5.heap.size + 1 + 1; omega)
   obtain ⟨hG8, c8, f8⟩ := read_q (x := nx) hG6 qb6 qo6 r1 r2
   obtain ⟨vA8, vn8, vc8, rfl⟩ := row_slice r1
   rw [HS.out.2] at hG8 c8 f8 qb
   have c6d : W5.drew.cell? ⟨g6, 0, none⟩ = some (.slice bA bn bc) := blk_cell qb 0
   have c6e : (W5.alloc (.cells #[.int .i64 x0, .int .i64 x1, .int .u64 x2, .string x3, .int .i64 nx] 83)).cell? ⟨g6, 0, none⟩ = some (.slice bA bn bc) := blk_cell (blk_alloc (w := W5) qb _) 0
   have c6g : ((W5.alloc (.cells #[.int .i64 x0, .int .i64 x1, .int .u64 x2, .string x3, .int .i64 nx] 83)).alloc (.cells #[.int .i64 nx] 3)).cell? ⟨g6, 0, none⟩ = some (.slice bA bn bc) := blk_cell (blk_alloc (blk_alloc (w := W5) qb _) _) 0
   have hme := fun (v : Value) (W : World) => one_method v 241 W
   have f6d : W5.drew.frozen? ⟨g6, 0, none⟩ = false := blk_frozen qb 0
   clear r1 r2 r3 r4 hz1 hz2 hz3 hi1 qb qo qb6 qo6 hG5 hG6 c5d f5d c6 f6 hrun
   refine wpIn_mono (Q := fun e a W' => e = .normal ∧ (∃ u1 u2 u3 u4 u5 u6 : Value, True) ∧ W' = W7.setCell ⟨g6, 0, none⟩ (.slice vA8 vn8 vc8)) ?_ ?_
   ·refine wpIn_region_any (by kernel_rfl) ?_
    try (change wpAnyIn _ _ _ _ _ _ _ _ _ (World.drew _))
    refine wpAnyIn_ready (rs := [0, 1]) (by kernel_rfl) (by simp) ?_
    refine AllReadyIn.cons rfl (fun K hK => ?_) (AllReadyIn.cons rfl (fun K hK => ?_) AllReadyIn.nil)
    ·go_simp
     refine hK _ _ ?_
     clear hK K
     refine wpAnyIn_ready (rs := [1]) (by kernel_rfl) (by simp) ?_
     refine AllReadyIn.cons rfl (fun K hK => ?_) AllReadyIn.nil
     go_simp
     refine hK _ _ ?_
     clear hK K
     refine wpAnyIn_ready (rs := [2]) (by kernel_rfl) (by simp) ?_
     refine AllReadyIn.cons rfl (fun K hK => ?_) AllReadyIn.nil
     go_simp
     refine ⟨trivial, ?_⟩
     refine (CallsIn.inRound _ (callsIn_wide.2 (key_where.calls x0 x1 x2 x3 nx _))).mono ?_
     rintro e w' ⟨rfl, rfl⟩
     refine hK _ _ ?_
     clear hK K
     refine wpAnyIn_ready (rs := [3]) (by kernel_rfl) (by simp) ?_
     refine AllReadyIn.cons rfl (fun K hK => ?_) AllReadyIn.nil
     go_simp
     refine hK _ _ ?_
     clear hK K
     refine wpAnyIn_ready (rs := [4]) (by kernel_rfl) (by simp) ?_
     refine AllReadyIn.cons rfl (fun K hK => ?_) AllReadyIn.nil
     rw [if_pos (by kernel_rfl)]
     refine operIn_append (.tmp 29) (.tmp 32) 58 rfl (.slice bA bn bc) (.slice (some ⟨W5.heap.size + 1, 0, none⟩) 1 1) _ _ rfl rfl hrun8 (hK _ _ ?_)
     clear hK K
     refine wpAnyIn_ready (rs := [5]) (by kernel_rfl) (by simp) ?_
     refine AllReadyIn.cons rfl (fun K hK => ?_) AllReadyIn.nil
     go_simp
     refine hK _ _ ?_
     clear hK K
     refine wpAnyIn_done (by kernel_rfl) ?_ _
     exact ⟨rfl, ⟨undef, undef, undef, undef, undef, undef, trivial⟩, rfl⟩
    ·go_simp
     refine hK _ _ ?_
     clear hK K
     refine wpAnyIn_ready (rs := [0, 2]) (by kernel_rfl) (by simp) ?_
     refine AllReadyIn.cons rfl (fun K hK => ?_) (AllReadyIn.cons rfl (fun K hK => ?_) AllReadyIn.nil)
     ·go_simp
      refine hK _ _ ?_
      clear hK K
      refine wpAnyIn_ready (rs := [2]) (by kernel_rfl) (by simp) ?_
      refine AllReadyIn.cons rfl (fun K hK => ?_) AllReadyIn.nil
      go_simp
      refine ⟨trivial, ?_⟩
      refine (CallsIn.inRound _ (callsIn_wide.2 (key_where.calls x0 x1 x2 x3 nx _))).mono ?_
      rintro e w' ⟨rfl, rfl⟩
      refine hK _ _ ?_
      clear hK K
      refine wpAnyIn_ready (rs := [3]) (by kernel_rfl) (by simp) ?_
      refine AllReadyIn.cons rfl (fun K hK => ?_) AllReadyIn.nil
      go_simp
      refine hK _ _ ?_
      clear hK K
      refine wpAnyIn_ready (rs := [4]) (by kernel_rfl) (by simp) ?_
      refine AllReadyIn.cons rfl (fun K hK => ?_) AllReadyIn.nil
      rw [if_pos (by kernel_rfl)]
      refine operIn_append (.tmp 29) (.tmp 32) 58 rfl (.slice bA bn bc) (.slice (some ⟨W5.heap.size + 1, 0, none⟩) 1 1) _ _ rfl rfl hrun8 (hK _ _ ?_)
      clear hK K
      refine wpAnyIn_ready (rs := [5]) (by kernel_rfl) (by simp) ?_
      refine AllReadyIn.cons rfl (fun K hK => ?_) AllReadyIn.nil
      go_simp
      refine hK _ _ ?_
      clear hK K
      refine wpAnyIn_done (by kernel_rfl) ?_ _
      exact ⟨rfl, ⟨undef, undef, undef, undef, undef, undef, trivial⟩, rfl⟩
     ·go_simp
      refine ⟨trivial, ?_⟩
      refine (CallsIn.inRound _ (callsIn_wide.2 (key_where.calls x0 x1 x2 x3 nx _))).mono ?_
      rintro e w' ⟨rfl, rfl⟩
      refine hK _ _ ?_
      clear hK K
      refine wpAnyIn_ready (rs := [0, 3]) (by kernel_rfl) (by simp) ?_
      refine AllReadyIn.cons rfl (fun K hK => ?_) (AllReadyIn.cons rfl (fun K hK => ?_) AllReadyIn.nil)
      ·go_simp
       refine hK _ _ ?_
       clear hK K
       refine wpAnyIn_ready (rs := [3]) (by kernel_rfl) (by simp) ?_
       refine AllReadyIn.cons rfl (fun K hK => ?_) AllReadyIn.nil
       go_simp
       refine hK _ _ ?_
       clear hK K
       refine wpAnyIn_ready (rs := [4]) (by kernel_rfl) (by simp) ?_
       refine AllReadyIn.cons rfl (fun K hK => ?_) AllReadyIn.nil
       rw [if_pos (by kernel_rfl)]
       refine operIn_append (.tmp 29) (.tmp 32) 58 rfl (.slice bA bn bc) (.slice (some ⟨W5.heap.size + 1, 0, none⟩) 1 1) _ _ rfl rfl hrun8 (hK _ _ ?_)
       clear hK K
       refine wpAnyIn_ready (rs := [5]) (by kernel_rfl) (by simp) ?_
       refine AllReadyIn.cons rfl (fun K hK => ?_) AllReadyIn.nil
       go_simp
       refine hK _ _ ?_
       clear hK K
       refine wpAnyIn_done (by kernel_rfl) ?_ _
       exact ⟨rfl, ⟨undef, undef, undef, undef, undef, undef, trivial⟩, rfl⟩
      ·go_simp
       refine hK _ _ ?_
       clear hK K
       refine wpAnyIn_ready (rs := [0]) (by kernel_rfl) (by simp) ?_
       refine AllReadyIn.cons rfl (fun K hK => ?_) AllReadyIn.nil
       go_simp
       refine hK _ _ ?_
       clear hK K
       refine wpAnyIn_ready (rs := [4]) (by kernel_rfl) (by simp) ?_
       refine AllReadyIn.cons rfl (fun K hK => ?_) AllReadyIn.nil
       rw [if_pos (by kernel_rfl)]
       refine operIn_append (.tmp 29) (.tmp 32) 58 rfl (.slice bA bn bc) (.slice (some ⟨W5.heap.size + 1, 0, none⟩) 1 1) _ _ rfl rfl hrun8 (hK _ _ ?_)
       clear hK K
       refine wpAnyIn_ready (rs := [5]) (by kernel_rfl) (by simp) ?_
       refine AllReadyIn.cons rfl (fun K hK => ?_) AllReadyIn.nil
       go_simp
       refine hK _ _ ?_
       clear hK K
       refine wpAnyIn_done (by kernel_rfl) ?_ _
       exact ⟨rfl, ⟨undef, undef, undef, undef, undef, undef, trivial⟩, rfl⟩
   ·rintro e a W' ⟨rfl, _, rfl⟩
    gi_wp2
    exact ⟨hG8.lp, rfl, hG8.put (st' := rec .ready none)⟩
 have hBad : ∀ (wr : World) (l : List S51) (q : List Int) (e1 p1 : Int), ReadAt w a0 (.slice none 0 0) (.slice none 0 0) 0 l q (rec .ready none) wr →
   YieldAt Fence.wide 7 Tryd.prog (w.heap.size + 8 + 1) #[.iface 80 (.agg #[.int .i64 e1, .int .i64 p1])] wr fun e W' => e = .returned (.bool false) ∧ ReadAt w a0 (.slice none 0 0) (.slice none 0 0) e1 l q (rec .done (some .ret)) W' := by
  intro wr l q e1 p1 hG
  refine hY wr _ _ rfl hG.lp ?_
  simp only [List.zip_toArray, List.zip_cons_cons, List.zip_nil_right, List.zip_nil_left, List.foldl_toArray', List.foldl_cons, List.foldl_nil, List.setIfInBounds_toArray, List.set_cons_zero, List.set_cons_succ, List.size_toArray, List.length_cons, List.length_nil, Nat.reduceAdd]
  gi_wp2
  refine ⟨hG.lp, ?_⟩
  have as1 := as_fault_yes
  gi_wp2
  obtain ⟨W3, hW3⟩ : ∃ W3, (wr.putObj (w.heap.size + 8 + 1) (.loop (rec .busy none))).alloc (.cells #[.int .i64 e1, .int .i64 p1] 80) = W3 := ⟨_, rfl⟩
  have hG3 : ReadAt w a0 (.slice none 0 0) (.slice none 0 0) 0 l q (rec .busy none) W3 := by
   rw [← hW3]
   exact (hG.put (st' := rec .busy none)).alloc _
  have hbx : W3.heap[wr.heap.size]? = some (.cells #[.int .i64 e1, .int .i64 p1] 80 (0, 0)) := by
   rw [← hW3]
   have := blk_new (wr.putObj (w.heap.size + 8 + 1) (.loop (rec .busy none))) (.cells #[.int .i64 e1, .int .i64 p1] 80)
   simpa using this
  have hge : w.heap.size + 10 ≤ wr.heap.size := by have := blk_lt hG.lp; omega
  have hR := hG3.drew.res (.slice none 0 0) (.slice none 0 0) e1
  rw [hW3]
  clear hW3 hG as1
  obtain ⟨gl, hgl⟩ : ∃ gl, gl = w.heap.size + 8 + 1 := ⟨_, rfl⟩
  have HL := Aside0.mk hgl
  rw [← hgl]
  clear hgl
  have c0 : W3.drew.cell? ⟨w.heap.size, 0, none⟩ = some (.slice none 0 0) := blk_cell hG3.r0 0
  have c1 : W3.drew.cell? ⟨w.heap.size + 1, 0, none⟩ = some (.slice none 0 0) := blk_cell hG3.r1 0
  have c2 : W3.drew.cell? ⟨w.heap.size + 1 + 1, 0, none⟩ = some (.int .i64 0) := blk_cell hG3.r2 0
  have f0 : W3.drew.frozen? ⟨w.heap.size, 0, none⟩ = false := blk_frozen hG3.r0 0
  have f1 : W3.drew.frozen? ⟨w.heap.size + 1, 0, none⟩ = false := blk_frozen hG3.r1 0
  have f2 : W3.drew.frozen? ⟨w.heap.size + 1 + 1, 0, none⟩ = false := blk_frozen hG3.r2 0
  have c0' : W3.cell? ⟨w.heap.size, 0, none⟩ = some (.slice none 0 0) := c0
  have c1' : W3.cell? ⟨w.heap.size + 1, 0, none⟩ = some (.slice none 0 0) := c1
  have c2' : W3.cell? ⟨w.heap.size + 1 + 1, 0, none⟩ = some (.int .i64 0) := c2
  have f0' : W3.frozen? ⟨w.heap.size, 0, none⟩ = false := f0
  have f1' : W3.frozen? ⟨w.heap.size + 1, 0, none⟩ = false := f1
  have f2' : W3.frozen? ⟨w.heap.size + 1 + 1, 0, none⟩ = false := f2
  have cx : W3.drew.cell? ⟨wr.heap.size, 0, none⟩ = some (.int .i64 e1) := blk_cell hbx 0
  have cx' : W3.cell? ⟨wr.heap.size, 0, none⟩ = some (.int .i64 e1) := cx
  clear hG3 hbx hY h hz hG0 hOk
  generalize Value.tuple _ = vt
  generalize Value.func (.func 56) _ _ = fv
  generalize Value.slice (some ⟨w.heap.size + 1 + 1 + 1 + 1, 0, none⟩) 1 1 = s11
  generalize Value.slice (some ⟨w.heap.size + 1 + 1 + 1, 0, none⟩) 0 0 = s10
  obtain ⟨g2, hg2⟩ : ∃ g2, g2 = w.heap.size + 1 + 1 := ⟨_, rfl⟩
  obtain ⟨g1, hg1⟩ : ∃ g1, g1 = w.heap.size + 1 := ⟨_, rfl⟩
  obtain ⟨g0, hg0⟩ : ∃ g0, g0 = w.heap.size := ⟨_, rfl⟩
  have n1 : wr.heap.size ≠ g0 := by omega
  have n2 : wr.heap.size ≠ g1 := by omega
  have n3 : wr.heap.size ≠ g2 := by omega
  have n4 : g0 ≠ g1 := by omega
  have n5 : g0 ≠ g2 := by omega
  have n6 : g1 ≠ g2 := by omega
  rw [← hg2] at c2 f2 c2' f2' ⊢
  rw [← hg1] at c1 f1 c1' f1' ⊢
  rw [← hg0] at c0 f0 c0' f0' ⊢
  have HG := as_ (⟨hg0, hg1, hg2⟩ : g0 = w.heap.size ∧ g1 = w.heap.size + 1 ∧ g2 = w.heap.size + 1 + 1)
  clear hg0 hg1 hg2 hge
  generalize wr.heap.size = gx at *
  refine wpIn_mono (Q := fun e a W' => e = .normal ∧ W' = ((W3.drew.setCell ⟨g0, 0, none⟩ (.slice none 0 0)).setCell ⟨g1, 0, none⟩ (.slice none 0 0)).setCell ⟨g2, 0, none⟩ (.int .i64 e1)) ?_ ?_
  ·gi_region_with (fail)
   all_goals exact ⟨rfl, rfl⟩
  ·rintro e a W' ⟨rfl, rfl⟩
   gi_wp2
   rw [HG.out.1, HG.out.2.1, HG.out.2.2]
   exact ⟨hR.lp, rfl, hR.put (st' := rec .done (some .ret))⟩
 -- WALK
 have hin : a0.size ≤ 1000000 := by
  by_cases q : a0.size ≤ 1000000
  rotate_left
  ·rw [if_neg q] at h; cases h
  exact q
 rw [if_pos hin] at h
 have HIN := Aside0.mk hin
 have HOk := Aside0.mk hOk
 have HBad := Aside0.mk hBad
 have HZ := Aside0.mk hz
 clear hin hOk hBad hY hz
 refine callsIn_of_wp Tryd.func56 rfl trivial ?_ rfl
 simp only [Tryd.ntmps56, List.size_toArray, List.length_cons, List.length_nil, Nat.reduceAdd, Nat.reduceSub, Array.replicate_succ, Array.replicate_zero, List.push_toArray, List.append_toArray, List.nil_append, List.cons_append]
 gi_wp2
 gi_loopw [3] (fun v wr => ∃ (kq : Nat) (p : Int) (l : List S51) (q : List Int), v = .int .i64 p ∧ ReadAt w a0 (.slice none 0 0) (.slice none 0 0) 0 l q (rec .ready none) wr ∧ key_read.l0 kq a0 p l q = some (r1, r2, r3) ∧ (0 ≤ p ∧ p ≤ (a0.size : Int)) ∧ q.length = l.length ∧ (0 :: q)[l.length]? = some p) (fun _ wr => 1000001 - read_len (w.heap.size + 5) wr)
 case atStart => exact ⟨k, 0, [], [], rfl, hG0, h, ⟨Int.le_refl _, by omega⟩, rfl, rfl⟩
 case round =>
  clear hG0 h
  obtain ⟨kq, p, l, q, rfl, hG, hl0, hp, hq, hlast⟩ := hrel
  cases kq with
  | zero => simp [key_read.l0] at hl0
  | succ kq =>
   simp only [key_read.l0] at hl0
   have hs : wr.cell? ⟨w.heap.size + 7, 0, none⟩ = some (.string a0) := blk_cell hG.sb 0
   have HM := Aside0.mk hG.len
   have HP := as_ (⟨hp, hq, hlast⟩ : (0 ≤ p ∧ p ≤ (a0.size : Int)) ∧ q.length = l.length ∧ (0 :: q)[l.length]? = some p)
   have HG := Aside0.mk hG
   clear hp hq hlast hG
   by_cases c1 : p = (a0.size : Int)
   ·have c1b0 : (p == (a0.size : Int)) = true := beq_iff_eq.mpr c1
    rw [if_neg (by rw [if_pos c1]; decide)] at hl0
    obtain ⟨⟨t1, t2, t3, t4, t5, t6⟩, hg, hl0⟩ := Option.bind_eq_some_iff.mp hl0
    have A7 := Aside0.mk hg
    have HL := as_ (show (if t6 = 0 then (if l.length < 1000000 then (if 0 ≤ t5 ∧ t5 ≤ (a0.size : Int) then key_read.l0 kq a0 t5 (l ++ [⟨t1, t2, t3, t4⟩]) (q ++ [t5]) else none) else none) else some ([], [], t6)) = some (r1, r2, r3) from hl0)
    clear hg hl0 c1
    by_cases e0 : t6 = 0
    rotate_left
    ·have e0b : (t6 == 0) = false := beq_eq_false_iff_ne.mpr e0
     have e0c : (t6 != 0) = true := bne_iff_ne.mpr e0
     have hL := HL.out
     rw [if_neg e0] at hL
     have HL2 := Aside0.mk hL
     clear e0 hL HL
     gi_wp2_with (refine ⟨trivial, ?_⟩; gi_at_call 57; refine (callsIn_wide.2 (col_Get.calls kq a0 p t1 t2 t3 t4 t5 t6 _ A7.out)).mono ?_; rintro e w9 ⟨rfl, hb⟩; have hG9 := (HG.out.belowW hb).alloc (.cells #[.int .i64 t1, .int .i64 t2, .int .u64 t3, .string t4] 51); obtain ⟨fn_, tm_, as_, bd_, hy, hR⟩ := HBad.out _ l q t6 p hG9; clear hG9 hb)
     refine hR.mono ?_
     rintro e W3 ⟨rfl, hG3⟩
     clear hy hR
     gi_wp2
     refine bodyPost_ret (results_none rfl _ _ _) rfl ?_
     refine ⟨⟨_, rfl⟩, .inr ⟨.ret, hG3.lp, ?_⟩⟩
     have hG4 := hG3.put (st' := rec .exhausted (some .ret))
     generalize W3.putObj (w.heap.size + 9) (.loop (rec .exhausted (some .ret))) = W4 at hG4 ⊢
     clear hG3
     gi_wp2
     refine ⟨by simp, .inl ⟨_, _, rfl, run_takeDeferred hG4.dd, ?_⟩⟩
     have hL := HL2.out
     simp only [Option.some.injEq, Prod.mk.injEq] at hL
     obtain ⟨z0, z1, z2, z3, _⟩ := hG4.leave
     refine ⟨_, read_results rfl _ _ rfl rfl rfl z0 z1 z2, ?_⟩
     obtain ⟨q1, q2, q3⟩ := hL
     subst q1 q2 q3
     exact ⟨_, _, rfl, Kd.R_nil _ _ _ _ _, Kd.R_nil _ _ _ _ _, z3⟩
    have e0b : (t6 == 0) = true := beq_iff_eq.mpr e0
    have e0c : (t6 != 0) = false := bne_eq_false_iff_eq.mpr e0
    have hL := HL.out
    rw [if_pos e0] at hL
    by_cases e1 : l.length < 1000000
    rotate_left
    ·rw [if_neg e1] at hL; cases hL
    rw [if_pos e1] at hL
    by_cases e2 : 0 ≤ t5 ∧ t5 ≤ (a0.size : Int)
    rotate_left
    ·rw [if_neg e2] at hL; cases hL
    rw [if_pos e2] at hL
    have HL2 := as_ (⟨e1, e2, hL⟩ : l.length < 1000000 ∧ (0 ≤ t5 ∧ t5 ≤ (a0.size : Int)) ∧ key_read.l0 kq a0 t5 (l ++ [⟨t1, t2, t3, t4⟩]) (q ++ [t5]) = some (r1, r2, r3))
    clear e0 e1 e2 hL HL
    gi_wp2_with (refine ⟨trivial, ?_⟩; gi_at_call 57; refine (callsIn_wide.2 (col_Get.calls kq a0 p t1 t2 t3 t4 t5 t6 _ A7.out)).mono ?_; rintro e w9 ⟨rfl, hb⟩; have hG9 := (HG.out.belowW hb).alloc (.cells #[.int .i64 t1, .int .i64 t2, .int .u64 t3, .string t4] 51); obtain ⟨fn_, tm_, as_, bd_, hy, hR⟩ := HOk.out _ l q t1 t2 t3 t4 t5 hG9 HL2.out.1 (by have := HP.out.2.1; have := HL2.out.1; omega); clear hG9 hb)
    refine hR.mono ?_
    rintro e W3 ⟨rfl, hG3⟩
    clear hy hR
    gi_wp2
    have h2 := HL2.out
    refine ⟨⟨kq, t5, l ++ [⟨t1, t2, t3, t4⟩], q ++ [t5], rfl, hG3, h2.2.2, h2.2.1, by rw [List.length_append, List.length_append, HP.out.2.1]; rfl, ?_⟩, ?_⟩
    ·rw [List.length_append, show (0 :: (q ++ [t5])) = (0 :: q) ++ [t5] from rfl, List.getElem?_append_right (by simp [HP.out.2.1])]
     simp [HP.out.2.1]
    ·rw [hG3.len, HM.out, List.length_append]
     simp only [List.length_cons, List.length_nil]
     omega
   have c1b0 : (p == (a0.size : Int)) = false := beq_eq_false_iff_ne.mpr c1
   have p1 : 0 ≤ p := HP.out.1.1
   have q1 : p < (a0.size : Int) := by have := HP.out.1.2; omega
   have hx := bt_at a0 p
   replace p1 := eq_true p1
   replace q1 := eq_true q1
   by_cases c2 : bt a0 p = 1
   rotate_left
   ·have c2b0 : (bt a0 p == 1) = false := beq_eq_false_iff_ne.mpr c2
    have c2b1 : (bt a0 p != 1) = true := bne_iff_ne.mpr c2
    rw [if_neg (by rw [if_neg c1, c2b0]; decide)] at hl0
    clear c2
    obtain ⟨⟨t1, t2, t3, t4, t5, t6⟩, hg, hl0⟩ := Option.bind_eq_some_iff.mp hl0
    have A7 := Aside0.mk hg
    have HL := as_ (show (if t6 = 0 then (if l.length < 1000000 then (if 0 ≤ t5 ∧ t5 ≤ (a0.size : Int) then key_read.l0 kq a0 t5 (l ++ [⟨t1, t2, t3, t4⟩]) (q ++ [t5]) else none) else none) else some ([], [], t6)) = some (r1, r2, r3) from hl0)
    clear hg hl0 c1
    by_cases e0 : t6 = 0
    rotate_left
    ·have e0b : (t6 == 0) = false := beq_eq_false_iff_ne.mpr e0
     have e0c : (t6 != 0) = true := bne_iff_ne.mpr e0
     have hL := HL.out
     rw [if_neg e0] at hL
     have HL2 := Aside0.mk hL
     clear e0 hL HL
     gi_wp2_with (refine ⟨trivial, ?_⟩; gi_at_call 57; refine (callsIn_wide.2 (col_Get.calls kq a0 p t1 t2 t3 t4 t5 t6 _ A7.out)).mono ?_; rintro e w9 ⟨rfl, hb⟩; have hG9 := (HG.out.belowW hb).alloc (.cells #[.int .i64 t1, .int .i64 t2, .int .u64 t3, .string t4] 51); obtain ⟨fn_, tm_, as_, bd_, hy, hR⟩ := HBad.out _ l q t6 p hG9; clear hG9 hb)
     refine hR.mono ?_
     rintro e W3 ⟨rfl, hG3⟩
     clear hy hR
     gi_wp2
     refine bodyPost_ret (results_none rfl _ _ _) rfl ?_
     refine ⟨⟨_, rfl⟩, .inr ⟨.ret, hG3.lp, ?_⟩⟩
     have hG4 := hG3.put (st' := rec .exhausted (some .ret))
     generalize W3.putObj (w.heap.size + 9) (.loop (rec .exhausted (some .ret))) = W4 at hG4 ⊢
     clear hG3
     gi_wp2
     refine ⟨by simp, .inl ⟨_, _, rfl, run_takeDeferred hG4.dd, ?_⟩⟩
     have hL := HL2.out
     simp only [Option.some.injEq, Prod.mk.injEq] at hL
     obtain ⟨z0, z1, z2, z3, _⟩ := hG4.leave
     refine ⟨_, read_results rfl _ _ rfl rfl rfl z0 z1 z2, ?_⟩
     obtain ⟨q1, q2, q3⟩ := hL
     subst q1 q2 q3
     exact ⟨_, _, rfl, Kd.R_nil _ _ _ _ _, Kd.R_nil _ _ _ _ _, z3⟩
    have e0b : (t6 == 0) = true := beq_iff_eq.mpr e0
    have e0c : (t6 != 0) = false := bne_eq_false_iff_eq.mpr e0
    have hL := HL.out
    rw [if_pos e0] at hL
    by_cases e1 : l.length < 1000000
    rotate_left
    ·rw [if_neg e1] at hL; cases hL
    rw [if_pos e1] at hL
    by_cases e2 : 0 ≤ t5 ∧ t5 ≤ (a0.size : Int)
    rotate_left
    ·rw [if_neg e2] at hL; cases hL
    rw [if_pos e2] at hL
    have HL2 := as_ (⟨e1, e2, hL⟩ : l.length < 1000000 ∧ (0 ≤ t5 ∧ t5 ≤ (a0.size : Int)) ∧ key_read.l0 kq a0 t5 (l ++ [⟨t1, t2, t3, t4⟩]) (q ++ [t5]) = some (r1, r2, r3))
    clear e0 e1 e2 hL HL
    gi_wp2_with (refine ⟨trivial, ?_⟩; gi_at_call 57; refine (callsIn_wide.2 (col_Get.calls kq a0 p t1 t2 t3 t4 t5 t6 _ A7.out)).mono ?_; rintro e w9 ⟨rfl, hb⟩; have hG9 := (HG.out.belowW hb).alloc (.cells #[.int .i64 t1, .int .i64 t2, .int .u64 t3, .string t4] 51); obtain ⟨fn_, tm_, as_, bd_, hy, hR⟩ := HOk.out _ l q t1 t2 t3 t4 t5 hG9 HL2.out.1 (by have := HP.out.2.1; have := HL2.out.1; omega); clear hG9 hb)
    refine hR.mono ?_
    rintro e W3 ⟨rfl, hG3⟩
    clear hy hR
    gi_wp2
    have h2 := HL2.out
    refine ⟨⟨kq, t5, l ++ [⟨t1, t2, t3, t4⟩], q ++ [t5], rfl, hG3, h2.2.2, h2.2.1, by rw [List.length_append, List.length_append, HP.out.2.1]; rfl, ?_⟩, ?_⟩
    ·rw [List.length_append, show (0 :: (q ++ [t5])) = (0 :: q) ++ [t5] from rfl, List.getElem?_append_right (by simp [HP.out.2.1])]
     simp [HP.out.2.1]
    ·rw [hG3.len, HM.out, List.length_append]
     simp only [List.length_cons, List.length_nil]
     omega
   have c2b0 : (bt a0 p == 1) = true := beq_iff_eq.mpr c2
   have c2b1 : (bt a0 p != 1) = false := bne_eq_false_iff_eq.mpr c2
   rw [if_pos (by rw [if_neg c1]; exact c2b0)] at hl0
   have HL := Aside0.mk hl0
   clear hl0 c1 c2
   gi_wp2
   refine bodyPost_end (results_none rfl _ _ _) rfl ?_
   refine ⟨⟨_, rfl⟩, .inl ⟨HG.out.lp, ?_⟩⟩
   have hG4 := HG.out.put (st' := rec .exhausted none)
   generalize wr.putObj (w.heap.size + 9) (.loop (rec .exhausted none)) = W4 at hG4 ⊢
   clear hs HOk HBad
   obtain ⟨va, hva, hvo⟩ := hG4.ab
   obtain ⟨vl, hvl, hlo⟩ := hG4.lb
   rcases hvo.2 with ⟨_, hn0⟩ | ⟨ga, capa, cura, rfl, hga, hha, hra⟩
   ·exact absurd hn0 (by omega)
   obtain ⟨A5, m5, c5, rfl⟩ := row_slice hlo
   have ca : W4.cell? ⟨w.heap.size + 1 + 1 + 1 + 1 + 1 + 1, 0, none⟩ = some (.slice (some ⟨ga, 0, none⟩) (q.length + 1) capa) := blk_cell hva 0
   have cl : W4.cell? ⟨w.heap.size + 1 + 1 + 1 + 1 + 1, 0, none⟩ = some (.slice A5 m5 c5) := blk_cell hvl 0
   have ce : W4.cell? ⟨ga, q.length, none⟩ = some (.int .i64 p) := by
    rw [World.ownsRow.cellAt hvo q.length (by omega), HP.out.2.1, List.getElem?_map, HP.out.2.2]
    rfl
   have hm : q.length + 1 < 2 ^ 63 := by have := hra.1; have := hra.2.1; have : maxLen = 2 ^ 63 - 1 := rfl; omega
   have e1 : wrap64 (((q.length + 1 : Nat) : Int) - 1) = (q.length : Int) := by unfold wrap64; omega
   have e2 : wrap64 (((a0.size : Nat) : Int) - 1) = ((a0.size : Nat) : Int) - 1 := by have := HIN.out; unfold wrap64; omega
   have HL2 := as_ (show (if p = ((a0.size : Nat) : Int) - 1 then some (l, 0 :: q, 0) else some ([], [], 3)) = some (r1, r2, r3) by rw [← e2]; exact HL.out)
   clear HL
   have HR := fun (u0 u1 : Value) (e' : Int) => hG4.res u0 u1 e'
   have c0 : W4.cell? ⟨w.heap.size, 0, none⟩ = some (.slice none 0 0) := blk_cell hG4.r0 0
   have c1 : W4.cell? ⟨w.heap.size + 1, 0, none⟩ = some (.slice none 0 0) := blk_cell hG4.r1 0
   have c2 : W4.cell? ⟨w.heap.size + 1 + 1, 0, none⟩ = some (.int .i64 0) := blk_cell hG4.r2 0
   have f0 : W4.frozen? ⟨w.heap.size, 0, none⟩ = false := blk_frozen hG4.r0 0
   have f1 : W4.frozen? ⟨w.heap.size + 1, 0, none⟩ = false := blk_frozen hG4.r1 0
   have f2 : W4.frozen? ⟨w.heap.size + 1 + 1, 0, none⟩ = false := blk_frozen hG4.r2 0
   have HW := as_ (⟨hvo, hlo⟩ : W4.ownsRow w.heap.size 3 1 (.slice (some ⟨ga, 0, none⟩) (q.length + 1) capa) (q.length + 1) ((0 :: q).map (Value.int .i64)) ∧ W4.ownsRow w.heap.size 51 4 (.slice A5 m5 c5) l.length (colCells l))
   have HG4 := Aside0.mk hG4
   clear hG4 hva hvo hvl hlo hga hha hra
   by_cases c3 : p = ((a0.size : Nat) : Int) - 1
   rotate_left
   ·have c3b0 : (p == ((a0.size : Nat) : Int) - 1) = false := beq_eq_false_iff_ne.mpr c3
    have c3b1 : (p != ((a0.size : Nat) : Int) - 1) = true := bne_iff_ne.mpr c3
    have hL := HL2.out
    rw [if_neg c3] at hL
    have HL3 := Aside0.mk hL
    clear c3 hL HL2
    have d1 : (W4.setCell ⟨w.heap.size, 0, none⟩ (.slice none 0 0)).cell? ⟨w.heap.size + 1, 0, none⟩ = some (.slice none 0 0) := (World.cell?_setCell_far _ _ _ _ (by show w.heap.size ≠ w.heap.size + 1; omega)).trans c1
    have d2 : ((W4.setCell ⟨w.heap.size, 0, none⟩ (.slice none 0 0)).setCell ⟨w.heap.size + 1, 0, none⟩ (.slice none 0 0)).cell? ⟨w.heap.size + 1 + 1, 0, none⟩ = some (.int .i64 0) := (World.cell?_setCell_far _ _ _ _ (by show w.heap.size + 1 ≠ w.heap.size + 1 + 1; omega)).trans ((World.cell?_setCell_far _ _ _ _ (by show w.heap.size ≠ w.heap.size + 1 + 1; omega)).trans c2)
    gi_wp2
    have hR := HR (.slice none 0 0) (.slice none 0 0) 3
    refine ⟨by simp, .inl ⟨_, _, rfl, run_takeDeferred hR.dd, ?_⟩⟩
    have hL := HL3.out
    simp only [Option.some.injEq, Prod.mk.injEq] at hL
    obtain ⟨z0, z1, z2, z3, _⟩ := hR.leave
    refine ⟨_, read_results rfl _ _ rfl rfl rfl z0 z1 z2, ?_⟩
    obtain ⟨q1, q2, q3⟩ := hL
    subst q1 q2 q3
    exact ⟨_, _, rfl, Kd.R_nil _ _ _ _ _, Kd.R_nil _ _ _ _ _, z3⟩
   have c3b0 : (p == ((a0.size : Nat) : Int) - 1) = true := beq_iff_eq.mpr c3
   have c3b1 : (p != ((a0.size : Nat) : Int) - 1) = false := bne_eq_false_iff_eq.mpr c3
   have hL := HL2.out
   rw [if_pos c3] at hL
   have HL3 := Aside0.mk hL
   clear c3 hL HL2
   gi_wp2
   obtain ⟨A6, hA6⟩ : ∃ A6, A6 = some (⟨ga, 0, none⟩ : Addr) := ⟨_, rfl⟩
   obtain ⟨m6, hm6⟩ : ∃ m6, m6 = q.length + 1 := ⟨_, rfl⟩
   rw [← hA6, ← hm6] at ca ⊢
   have HV := as_ (⟨hA6, hm6⟩ : A6 = some (⟨ga, 0, none⟩ : Addr) ∧ m6 = q.length + 1)
   have hR := HG4.out.drew.res (.slice A5 m5 c5) (.slice A6 m6 capa) 0
   clear hA6 hm6 HR ce e1 e2 HM c1b0 c2b0 c2b1 hx p1 q1 c3b0 c3b1
   generalize Value.func (.func 56) _ _ = fv
   generalize Value.slice (some ⟨w.heap.size + 1 + 1 + 1 + 1, 0, none⟩) 1 1 = s11
   generalize Value.slice (some ⟨w.heap.size + 1 + 1 + 1, 0, none⟩) 0 0 = s10
   obtain ⟨g6, hg6⟩ : ∃ g6, g6 = w.heap.size + 1 + 1 + 1 + 1 + 1 + 1 := ⟨_, rfl⟩
   obtain ⟨g5, hg5⟩ : ∃ g5, g5 = w.heap.size + 1 + 1 + 1 + 1 + 1 := ⟨_, rfl⟩
   obtain ⟨g2, hg2⟩ : ∃ g2, g2 = w.heap.size + 1 + 1 := ⟨_, rfl⟩
   obtain ⟨g1, hg1⟩ : ∃ g1, g1 = w.heap.size + 1 := ⟨_, rfl⟩
   obtain ⟨g0, hg0⟩ : ∃ g0, g0 = w.heap.size := ⟨_, rfl⟩
   have n1 : g5 ≠ g0 := by omega
   have n2 : g5 ≠ g1 := by omega
   have n3 : g5 ≠ g2 := by omega
   have n4 : g0 ≠ g1 := by omega
   have n5 : g0 ≠ g2 := by omega
   have n6 : g1 ≠ g2 := by omega
   have n7 : g6 ≠ g0 := by omega
   have n8 : g6 ≠ g1 := by omega
   have n9 : g6 ≠ g2 := by omega
   have m11 : g0 ≠ g5 := by omega
   have m12 : g1 ≠ g5 := by omega
   have m13 : g2 ≠ g5 := by omega
   have m14 : g0 ≠ g6 := by omega
   have m15 : g1 ≠ g6 := by omega
   have m16 : g2 ≠ g6 := by omega
   rw [← hg6] at ca ⊢
   rw [← hg5] at cl ⊢
   rw [← hg2] at c2 f2 ⊢
   rw [← hg1] at c1 f1 ⊢
   rw [← hg0] at c0 f0
   have ca' : W4.drew.cell? ⟨g6, 0, none⟩ = some (.slice A6 m6 capa) := ca
   have cl' : W4.drew.cell? ⟨g5, 0, none⟩ = some (.slice A5 m5 c5) := cl
   have c0' : W4.drew.cell? ⟨g0, 0, none⟩ = some (.slice none 0 0) := c0
   have c1' : W4.drew.cell? ⟨g1, 0, none⟩ = some (.slice none 0 0) := c1
   have c2' : W4.drew.cell? ⟨g2, 0, none⟩ = some (.int .i64 0) := c2
   have f0' : W4.drew.frozen? ⟨g0, 0, none⟩ = false := f0
   have f1' : W4.drew.frozen? ⟨g1, 0, none⟩ = false := f1
   have f2' : W4.drew.frozen? ⟨g2, 0, none⟩ = false := f2
   refine wpIn_mono (Q := fun e a W' => e = .normal ∧ a.tmps.getD 2 undef = .pointer (some ⟨g0, 0, none⟩) ∧ a.tmps.getD 3 undef = .pointer (some ⟨g1, 0, none⟩) ∧ a.tmps.getD 4 undef = .pointer (some ⟨g2, 0, none⟩) ∧ a.defers = [{ target := Target.collected (w.heap.size + 8), args := #[] }] ∧ W' = ((W4.drew.setCell ⟨g0, 0, none⟩ (.slice A5 m5 c5)).setCell ⟨g1, 0, none⟩ (.slice A6 m6 capa)).setCell ⟨g2, 0, none⟩ (.int .i64 0)) ?_ ?_
   ·simp only [show w.heap.size = g0 from hg0.symm]
    clear hg0 hg1 hg2 hg5 hg6
    gi_region_with (fail)
    all_goals exact ⟨rfl, rfl, rfl, rfl, rfl, rfl⟩
   ·rintro e ⟨tm_, df_⟩ W' ⟨rfl, t2, t3, t4, td, rfl⟩
    obtain rfl : df_ = _ := td
    gi_wp2
    subst hg0 hg1 hg2
    refine ⟨by simp, .inl ⟨_, _, rfl, run_takeDeferred hR.dd, ?_⟩⟩
    have hL := HL3.out
    simp only [Option.some.injEq, Prod.mk.injEq] at hL
    obtain ⟨z0, z1, z2, z3, z4⟩ := hR.leave
    refine ⟨_, read_results rfl _ _ t2 t3 t4 z0 z1 z2, ?_⟩
    obtain ⟨q1, q2, q3⟩ := hL
    subst q1 q2 q3
    have hw1 : W4.drew.ownsRow w.heap.size 3 1 (.slice A6 m6 capa) (q.length + 1) ((0 :: q).map (Value.int .i64)) := by rw [HV.out.1, HV.out.2]; exact row_kept HW.out.1 fun _ _ _ => rfl
    have hw2 : W4.drew.ownsRow w.heap.size 51 4 (.slice A5 m5 c5) l.length (colCells l) := row_kept HW.out.2 fun _ _ _ => rfl
    have hv1 := z4 _ _ _ _ _ (HG4.out.drew.resrow (.slice A5 m5 c5) (.slice A6 m6 capa) 0 (by decide) (by decide) (by decide) hw1)
    have hv2 := z4 _ _ _ _ _ (HG4.out.drew.resrow (.slice A5 m5 c5) (.slice A6 m6 capa) 0 (by decide) (by decide) (by decide) hw2)
    exact ⟨_, _, rfl, ⟨fun _ _ => trivial, colCells l, hv2, reps_col (fun x => k51_mkM _ _ _ x) l⟩, Kd.R_of_own (xs := 0 :: q) hv1 (fun _ _ => trivial), z3⟩
end


/-! ### key_Get: function 13 -/
def key_Get.f (k : Nat) (a0 : ByteArray) : Option ((List (S51)) × Int) := (key_read.f k a0).bind fun bt231 => (some (bt231.1, bt231.2.2))
theorem key_Get.mono : ∀ a0 k, LeO (key_Get.f k a0) (key_Get.f (k + 1) a0) := by
 intro a0 k
 unfold key_Get.f
 repeat' first
   | (with_reducible exact key_read.mono _ _)
   | (with_reducible exact LeO.refl _)
   | (with_reducible exact LeO.none _)
   | (with_reducible refine LeO.ite ?_ ?_)
   | (with_reducible refine LeO.bind ?_ (fun _ => ?_))
   | exact key_read.mono _ _
   | exact LeO.none _
   | refine LeO.ite ?_ ?_
   | refine LeO.bind ?_ (fun _ => ?_)
set_option maxHeartbeats 8000000 in
set_option maxRecDepth 100000 in
theorem key_Get.calls (k : Nat) (a0 : ByteArray) (r1 : List (S51)) (r2 : Int) (w : World) (h : key_Get.f k a0 = some (r1, r2)) :
  Calls Tryd.prog 13 #[.string a0] w fun e w' => ∃ v0_ : Value, e = .returned (.tuple #[v0_, .int .i64 r2]) ∧ Kd.R k51 51 w' w.heap.size (fun _ => True) v0_ r1 ∧ Below w.heap.size w w' := by
 have HB := as_ (Below.refl w.heap.size w)
 have H : ((key_read.f k a0).bind fun bt231 => (some (bt231.1, bt231.2.2))) = some (r1, r2) := h
 clear h
 replace H := bM H
 obtain ⟨⟨t231, t232, t233⟩, A20, H⟩ := H
 replace H : (some (t231, t233)) = some (r1, r2) := H
 have A2 := Aside0.mk A20
 clear A20
 simp only [Option.some.injEq, Prod.mk.injEq] at H
 obtain ⟨rfl, rfl⟩ := H
 go_enter Tryd.func13, Tryd.ntmps13
 go_wp2_with (first | ((with_reducible refine gate_callee (f := 26) rfl ?_); refine goesL_ (some 9) rfl rfl Tryd.func26 (by kernel_rfl) rfl #[.string a0] rfl aO ?_; (with_reducible refine (key_read.calls k a0 t231 t232 t233 _ A2.out).mono ?_); rintro e w3 ⟨v234, v236, rfl, ho0, ho1, hb⟩; refine ⟨_, rfl, ?_⟩; have HO235 := as_ (Kd.R_lower ho0 (below_size bA)); have HO237 := as_ (Kd.R_lower ho1 (below_size bA)); replace HB := as_ (below_step bA hb); (try clear hb); (try clear hb2); (try clear hk); (try clear hi); (try clear ho0); (try clear ho1)))
 go_ret2
 exact ⟨_, eW, by (with_reducible repeat (first | apply Kd.R_alloc | apply Kd.R_drewN | apply Kd.R_drew)); exact HO235.out, by repeat (first | (with_reducible first | exact HB.out | apply below_alloc | apply pw_below_drewN | apply below_drew1) | exact HB.out)⟩

/-! ### withyref01_follow: function 58 -/
def withyref01_follow.f (a0 : Int) : Option (Int) := if a0 ≤ 240 then (some 0) else (if a0 ≤ 248 then (some 1) else (if a0 = 249 then (some 2) else (some (wrap64 ((wrap64 (a0)) - 247)))))
set_option maxHeartbeats 8000000 in
set_option maxRecDepth 100000 in
theorem withyref01_follow.calls (a0 : Int) (r : Int) (w : World) (h : withyref01_follow.f a0 = some r) :
  Calls Tryd.prog 58 #[.int .u8 a0] w fun e w' => e = .returned (.int .i64 r) ∧ Drawn0 w w' := by
 have H : (if a0 ≤ 240 then (some 0) else (if a0 ≤ 248 then (some 1) else (if a0 = 249 then (some 2) else (some (wrap64 ((wrap64 (a0)) - 247)))))) = some r := h
 clear h
 by_cases c2 : a0 ≤ 240
 ·rw [if_pos c2] at H
  have c2b0 : decide (a0 ≤ 240) = true := decide_eq_true c2
  clear c2
  obtain rfl := Option.some.inj H
  go_enter Tryd.func58, Tryd.ntmps58
  go_wp2
  go_ret
  exact ⟨by first | rfl | (simp; done) | (simp [*]; done), by repeat (first | exact Drawn0.refl _ | apply Drawn0.step)⟩
 rw [if_neg c2] at H
 have c2b0 : decide (a0 ≤ 240) = false := decide_eq_false c2
 clear c2
 by_cases c3 : a0 ≤ 248
 ·rw [if_pos c3] at H
  have c3b0 : decide (a0 ≤ 248) = true := decide_eq_true c3
  clear c3
  obtain rfl := Option.some.inj H
  go_enter Tryd.func58, Tryd.ntmps58
  go_wp2
  go_ret
  exact ⟨by first | rfl | (simp; done) | (simp [*]; done), by repeat (first | exact Drawn0.refl _ | apply Drawn0.step)⟩
 rw [if_neg c3] at H
 have c3b0 : decide (a0 ≤ 248) = false := decide_eq_false c3
 clear c3
 by_cases c4 : a0 = 249
 rotate_left
 ·rw [if_neg c4] at H
  have c4b0 : (a0 == 249) = false := beq_eq_false_iff_ne.mpr c4
  have c4b1 : (a0 != 249) = true := bne_iff_ne.mpr c4
  obtain rfl := Option.some.inj H
  go_enter Tryd.func58, Tryd.ntmps58
  go_wp2
  go_ret
  exact ⟨by first | rfl | (simp; done) | (simp [*]; done), by repeat (first | exact Drawn0.refl _ | apply Drawn0.step)⟩
 
 rw [if_pos c4] at H
 have c4b0 : (a0 == 249) = true := beq_iff_eq.mpr c4
 have c4b1 : (a0 != 249) = false := bne_eq_false_iff_eq.mpr c4
 clear c4
 obtain rfl := Option.some.inj H
 go_enter Tryd.func58, Tryd.ntmps58
 go_wp2
 go_ret
 exact ⟨by first | rfl | (simp; done) | (simp [*]; done), by repeat (first | exact Drawn0.refl _ | apply Drawn0.step)⟩
end Go.Proofs.YthaicofleloplaaDoor.P
