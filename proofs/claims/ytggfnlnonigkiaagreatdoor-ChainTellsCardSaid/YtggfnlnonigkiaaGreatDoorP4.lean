/- What is proved here: for functions of the Go text, a Lean function each, and that the call comes to just what it answers. Conditions: as each contract names them. Written by wip/tools/myprint.py, a driver of the print of the kit. -/
import Derived.Test.YtggfnlnonigkiaaGreatDoorP0
import Derived.Test.YtggfnlnonigkiaaGreatDoorP3
import Derived.Test.YtggfnlnonigkiaaGreatDoorWAbbr
namespace Go.Proofs.YtggfnlnonigkiaaGreatDoor.P
open Go.RowKit Go.Proofs.YtggfnlnonigkiaaGreatDoorW.PrintWords Go.Proofs.YtggfnlnonigkiaaGreatDoorW.PrintLast Go.Proofs.YtggfnlnonigkiaaGreatDoorW.PrintMore Go.Proofs.YtggfnlnonigkiaaGreatDoorW.Abbr
-- PACKED
attribute [local go_sem] max2_int min2_int max_two min_two max_three min_three max_four min_four Go.Proofs.YtggfnlnonigkiaaGreatDoorLaws.str_leq Go.Proofs.YtggfnlnonigkiaaGreatDoorLaws.str_gtr Go.Proofs.YtggfnlnonigkiaaGreatDoorLaws.str_geq Go.Proofs.YtggfnlnonigkiaaGreatDoorLaws.max2_str Go.Proofs.YtggfnlnonigkiaaGreatDoorLaws.min2_str   -- for this text's walks alone
set_option linter.unusedVariables false
set_option linter.unusedSimpArgs false

/-! ### head_may: function 30, by hand -/
theorem eq_code (c d : Int) (W : World) : (binOp .eql 63 (.iface 27 (.int .i64 c)) (.iface 27 (.int .i64 d))).run Tryz.prog W = .ok (.bool (c == d)) W := by
 have hi : Tryz.prog.underlying 63 = some (.interface (Tryz.prog.methodsAt 63)) := by kernel_rfl
 have hp : Tryz.prog.underlying 27 = some (.int .i64) := by kernel_rfl
 obtain ⟨i, hinfo, hcomp⟩ : ∃ i, Tryz.prog.info? 27 = some i ∧ i.comparable = true := by
  have h : (Tryz.prog.info? 27).map (·.comparable) = some true := by kernel_rfl
  cases h' : Tryz.prog.info? 27 with
  | none => rw [h'] at h; cases h
  | some i => rw [h'] at h; exact ⟨i, rfl, by injection h⟩
 have h : ∀ n : Nat, (Op.equalIn (n + 2) 63 (.iface 27 (.int .i64 c)) (.iface 27 (.int .i64 d))).run Tryz.prog W = .ok (c == d) W := fun n => by
  simp [Op.equalIn, run_underlying hi, run_underlying hp, typeInfo, hinfo, hcomp]
 simp only [binOp]
 simp [Op.equal, Op.maxDepth, h 9998]
theorem eq_other (t : TypeId) (v : Value) (d : Int) (W : World) (ht : t ≠ 27) : (binOp .eql 63 (.iface t v) (.iface 27 (.int .i64 d))).run Tryz.prog W = .ok (.bool false) W := by
 have hi : Tryz.prog.underlying 63 = some (.interface (Tryz.prog.methodsAt 63)) := by kernel_rfl
 have h : ∀ n : Nat, (Op.equalIn (n + 2) 63 (.iface t v) (.iface 27 (.int .i64 d))).run Tryz.prog W = .ok false W := fun n => by
  simp [Op.equalIn, run_underlying hi, ht]
 simp only [binOp]
 simp [Op.equal, Op.maxDepth, h 9998]
theorem least_cons (s : String) (r : List String) : (Instr.least (s :: r)).isSome = true := rfl
theorem missing_some (want : Array (String × TypeId)) (got : Array Method) (h : ((want.toList.filter fun (x : String × TypeId) => !got.any fun m => m.name == x.1 && m.sig == x.2).isEmpty) = false) : (Instr.missingMethod want got).isSome = true := by
 unfold Instr.missingMethod
 simp only
 generalize hL : (want.toList.filter fun (x : String × TypeId) => match x with | (name, sig) => !got.any fun m => m.name == name && m.sig == sig) = L
 have hL' : L.isEmpty = false := by rw [← hL]; exact h
 cases L with
 | nil => simp at hL'
 | cons a r =>
  simp only [List.map_cons, List.partition_eq_filter_filter]
  by_cases hd : a.1.contains '.' = true
  ·simp only [List.filter_cons, hd, if_true, List.map_cons]
   cases Instr.least _ <;> rfl
  simp only [Bool.not_eq_true] at hd
  simp only [List.filter_cons, Function.comp, hd, Bool.not_false, if_true]
  rfl
theorem assert_not (t T x : TypeId) (v : Value) (W : World) (h : (match Tryz.prog.underlying T, Tryz.prog.info? t with | some (.interface want), some i => !((want.toList.filter fun (x : String × TypeId) => !i.methods.any fun m => m.name == x.1 && m.sig == x.2).isEmpty) | _, _ => false) = true) (hz : (zeroValue T).run Tryz.prog W = .ok .nilIface W) : (Instr.typeAssert (.iface t v) x T true).run Tryz.prog W = .ok (.tuple #[.nilIface, .bool false]) W := by
 cases hu : Tryz.prog.underlying T with
 | none => rw [hu] at h; simp at h
 | some d =>
  cases hi : Tryz.prog.info? t with
  | none => rw [hu, hi] at h; cases d <;> simp at h
  | some i =>
   rw [hu, hi] at h
   cases d with
   | interface want =>
    have h' := missing_some want i.methods (by simpa only [Bool.not_eq_true'] using h)
    cases hm : Instr.missingMethod want i.methods with
    | none => rw [hm] at h'; cases h'
    | some m => simp [Instr.typeAssert, run_underlying hu, typeInfo, hi, hm, hz, Result.andThen]
   | _ => simp at h
theorem zero_iface (T : TypeId) (W : World) (h : (Tryz.prog.info? T).map (·.zero) = some (some .nilIface)) : (zeroValue T).run Tryz.prog W = .ok .nilIface W := by
 cases hi : Tryz.prog.info? T with
 | none => simp [hi] at h
 | some i =>
  have hz : i.zero = some .nilIface := by simpa [hi] using h
  simp [zeroValue, typeInfo, hi, hz, Result.andThen]
theorem assert_is (t : TypeId) (v : Value) (W : World) (h : (match Tryz.prog.underlying 126, Tryz.prog.info? t with | some (.interface want), some i => !((want.toList.filter fun (x : String × TypeId) => !i.methods.any fun m => m.name == x.1 && m.sig == x.2).isEmpty) | _, _ => false) = true) : (Instr.typeAssert (.iface t v) 63 126 true).run Tryz.prog W = .ok (.tuple #[.nilIface, .bool false]) W := assert_not _ _ _ _ W h (zero_iface _ W (by kernel_rfl))
theorem assert_un (t : TypeId) (v : Value) (W : World) (h : (match Tryz.prog.underlying 129, Tryz.prog.info? t with | some (.interface want), some i => !((want.toList.filter fun (x : String × TypeId) => !i.methods.any fun m => m.name == x.1 && m.sig == x.2).isEmpty) | _, _ => false) = true) : (Instr.typeAssert (.iface t v) 63 129 true).run Tryz.prog W = .ok (.tuple #[.nilIface, .bool false]) W := assert_not _ _ _ _ W h (zero_iface _ W (by kernel_rfl))
theorem assert_uns (t : TypeId) (v : Value) (W : World) (h : (match Tryz.prog.underlying 131, Tryz.prog.info? t with | some (.interface want), some i => !((want.toList.filter fun (x : String × TypeId) => !i.methods.any fun m => m.name == x.1 && m.sig == x.2).isEmpty) | _, _ => false) = true) : (Instr.typeAssert (.iface t v) 63 131 true).run Tryz.prog W = .ok (.tuple #[.nilIface, .bool false]) W := assert_not _ _ _ _ W h (zero_iface _ W (by kernel_rfl))
set_option maxRecDepth 100000 in
set_option maxHeartbeats 4000000 in
theorem is_leaf (t : TypeId) (u : Value) (d : Int) (b : Bool) (w : World) (heq : ∀ W : World, (binOp .eql 63 (.iface t u) (.iface 27 (.int .i64 d))).run Tryz.prog W = .ok (.bool b) W)
  (h1 : ∀ W : World, (Instr.typeAssert (.iface t u) 63 126 true).run Tryz.prog W = .ok (.tuple #[.nilIface, .bool false]) W)
  (h2 : ∀ W : World, (Instr.typeAssert (.iface t u) 63 129 true).run Tryz.prog W = .ok (.tuple #[.nilIface, .bool false]) W)
  (h3 : ∀ W : World, (Instr.typeAssert (.iface t u) 63 131 true).run Tryz.prog W = .ok (.tuple #[.nilIface, .bool false]) W) :
  Calls Tryz.prog 64 #[.iface t u, .iface 27 (.int .i64 d), .bool true] w fun e w' => e = .returned (.bool b) ∧ Drawn0 w w' := by
 cases b
 all_goals
  go_enter Tryz.func64, Tryz.ntmps64
  go_wp2
  go_loopg [0] 1 (fun kq v0 w' => v0 = .iface t u ∧ w' = w)
  case atStart => exact ⟨rfl, rfl⟩
  case round =>
   obtain ⟨rfl, rfl⟩ := hrel
   go_wp2
   go_ret
   exact ⟨rfl, by repeat (first | exact Drawn0.refl _ | apply Drawn0.step)⟩
theorem is_code (c d : Int) (w : World) : Calls Tryz.prog 64 #[.iface 27 (.int .i64 c), .iface 27 (.int .i64 d), .bool true] w fun e w' => e = .returned (.bool (c == d)) ∧ Drawn0 w w' :=
 is_leaf _ _ d _ w (eq_code c d) (fun W => assert_is _ _ W (by kernel_rfl)) (fun W => assert_un _ _ W (by kernel_rfl)) (fun W => assert_uns _ _ W (by kernel_rfl))
theorem is_text (u : Value) (d : Int) (w : World) : Calls Tryz.prog 64 #[.iface 137 u, .iface 27 (.int .i64 d), .bool true] w fun e w' => e = .returned (.bool false) ∧ Drawn0 w w' :=
 is_leaf _ _ d _ w (fun W => eq_other _ _ d W (by decide)) (fun W => assert_is _ _ W (by kernel_rfl)) (fun W => assert_un _ _ W (by kernel_rfl)) (fun W => assert_uns _ _ W (by kernel_rfl))
theorem typeOf_code (u : Value) (W : World) : (callFunc 63 #[.iface 27 u]).run Tryz.prog W = .ok (.value (.iface 124 (.agg #[typeHandle Tryz.prog 27]))) W := by
 have hc : (Tryz.prog.cutTypes.find? (·.1 == "internal/reflectlite.rtype")).map (·.2) = some 124 := by kernel_rfl
 have he : Extern.find Tryz.f63 = some Extern.ReflectliteType.typeOf := by kernel_rfl
 have hn : Extern.findNext Tryz.f63 = none := Option.isNone_iff_eq_none.1 (by kernel_rfl)
 rw [run_callFunc_extern Tryz.func63 (by kernel_rfl) rfl hn he]
 have hct : (cutType "internal/reflectlite.rtype").run Tryz.prog W = .ok 124 W := by
  unfold cutType
  cases hf : Tryz.prog.cutTypes.find? (·.1 == "internal/reflectlite.rtype") with
  | none => rw [hf] at hc; cases hc
  | some x =>
   rw [hf] at hc
   injection hc with hc
   simp [hf, hc, Result.andThen]
 have ht : Extern.ReflectliteType.typeOf #[.iface 27 u] = Extern.ReflectliteType.toType 27 := rfl
 rw [ht]
 simp [Extern.ReflectliteType.toType, hct, Extern.Rtype.handle, Result.andThen]
theorem method_val (n : Nat) (t : TypeId) (v : Value) (name : String) (f : FuncId) (q : Bool) (W : World) (h : ((Tryz.prog.info? t).bind fun i => i.methods.find? (·.name == name)).map (fun m => (m.path.toList.isEmpty, m.func)) = some (true, some (f, q))) (hr : ∀ y : Option String, (receiverAt t (.val v) q y).run Tryz.prog W = .ok v W) : (method (n + 1) t v name).run Tryz.prog W = .ok (f, v) W := by
 cases hi : Tryz.prog.info? t with
 | none => rw [hi] at h; cases h
 | some i =>
  rw [hi] at h
  cases hm : i.methods.find? (·.name == name) with
  | none => simp only [Option.bind_some, hm] at h; cases h
  | some m =>
   simp only [Option.bind_some, hm, Option.map_some, Option.some.injEq, Prod.mk.injEq, List.isEmpty_iff] at h
   obtain ⟨h1, h2⟩ := h
   simp [method, typeInfo, hi, hm, h1, h2, follow, hr, Result.andThen]
theorem receiver_struct (t : TypeId) (v : Value) (W : World) (y : Option String) (h : (match Tryz.prog.underlying t with | some (.struct _) => true | _ => false) = true) : (receiverAt t (.val v) false y).run Tryz.prog W = .ok v W := by
 cases hu : Tryz.prog.underlying t with
 | none => rw [hu] at h; cases h
 | some d =>
  rw [hu] at h
  cases d <;> simp at h
  simp [receiverAt, run_underlying hu, Place.get, Result.andThen]
theorem receiver_ptr (t : TypeId) (v : Value) (W : World) (y : Option String) (h : (match Tryz.prog.underlying t with | some (.pointer _) => true | _ => false) = true) : (receiverAt t (.val v) true y).run Tryz.prog W = .ok v W := by
 cases hu : Tryz.prog.underlying t with
 | none => rw [hu] at h; cases h
 | some d =>
  rw [hu] at h
  cases d <;> simp at h
  simp [receiverAt, run_underlying hu, Place.get, Result.andThen]
theorem comparable_code (n : Nat) (v : Value) (W : World) : (method (n + 1) 124 v "Comparable").run Tryz.prog W = .ok (108, v) W :=
 method_val n _ v _ _ false W (by kernel_rfl) (fun y => receiver_struct _ v W y (by kernel_rfl))
theorem handle_back (P : Program) (t : TypeId) : handleType P (typeHandle P t) = some t := by simp [handleType, typeHandle]
theorem run_program_ (P : Program) (W : World) : Sem.run P program W = .ok P W := rfl
theorem comparable_any (P : Program) (t : TypeId) (i : TypeInfo) (H : Value) (W : World) (hb : handleType P H = some t) (hp : P.packed t = false) (hh : P.holdsPacked P.depth t = false) (hi : P.info? t = some i) (hc : i.comparable = true) :
  ((Extern.ReflectliteType.method fun t => do Extern.Rtype.noPackHeld "Comparable" t; pure (.bool (← typeInfo t).comparable)) #[.agg #[H]]).run P W = .ok (.bool true) W := by
 have ht : ∀ (G : TypeId → Sem Value) (r : Value), Extern.ReflectliteType.method G #[r] = (do G (← Extern.ReflectliteType.ofRtype r)) := fun _ _ => rfl
 have ho : ∀ (r : Value), Extern.ReflectliteType.ofRtype (.agg #[r]) = (do let t ← Extern.Rtype.ofHandle r; Extern.Rtype.noPack "a Type asked or handed on" t; pure t) := fun _ => rfl
 have h1 : (Extern.Rtype.ofHandle H).run P W = .ok t W := by
  unfold Extern.Rtype.ofHandle
  simp only [Sem.run_bind, run_program_, Result.andThen, hb, Sem.run_pure]
 have h2 : ∀ s, (Extern.Rtype.noPack s t).run P W = .ok () W := by
  intro s
  unfold Extern.Rtype.noPack
  simp only [Sem.run_bind, run_program_, Result.andThen, hp, Bool.false_eq_true, if_false, Sem.run_pure]
 have h3 : ∀ s, (Extern.Rtype.noPackHeld s t).run P W = .ok () W := by
  intro s
  unfold Extern.Rtype.noPackHeld
  simp only [Sem.run_bind, run_program_, Result.andThen, hh, Bool.false_eq_true, if_false, Sem.run_pure]
 have h4 : (typeInfo t).run P W = .ok i W := by simp [typeInfo, hi]
 rw [ht, ho]
 simp only [Sem.run_bind, h1, h2, h3, h4, Result.andThen, Sem.run_pure, hc]
theorem comparable_run (W : World) : (callFunc 108 #[.agg #[typeHandle Tryz.prog 27]]).run Tryz.prog W = .ok (.value (.bool true)) W := by
 have he : Extern.find Tryz.f108 = some (Extern.ReflectliteType.method fun t => do Extern.Rtype.noPackHeld "Comparable" t; pure (.bool (← typeInfo t).comparable)) := by kernel_rfl
 have hn : Extern.findNext Tryz.f108 = none := Option.isNone_iff_eq_none.1 (by kernel_rfl)
 rw [run_callFunc_extern Tryz.func108 (by kernel_rfl) rfl hn he]
 have h : (Tryz.prog.info? 27).map (·.comparable) = some true := by kernel_rfl
 cases hi : Tryz.prog.info? 27 with
 | none => rw [hi] at h; cases h
 | some i =>
  rw [hi] at h
  rw [comparable_any Tryz.prog 27 i _ W (handle_back _ _) (by kernel_rfl) (by kernel_rfl) hi (by injection h)]
  rfl
set_option maxRecDepth 100000 in
set_option maxHeartbeats 4000000 in
theorem Is_leaf (t : TypeId) (u : Value) (d : Int) (b : Bool) (w : World) (hn : ∀ W : World, (binOp .eql 63 (.iface t u) .nilIface).run Tryz.prog W = .ok (.bool false) W) (hn2 : ∀ W : World, (binOp .eql 63 (.iface 27 (.int .i64 d)) .nilIface).run Tryz.prog W = .ok (.bool false) W)
  (hIs : ∀ W : World, Below w.heap.size w W → Calls Tryz.prog 64 #[.iface t u, .iface 27 (.int .i64 d), .bool true] W fun e w' => e = .returned (.bool b) ∧ Drawn0 W w') :
  Calls Tryz.prog 48 #[.iface t u, .iface 27 (.int .i64 d)] w fun e w' => e = .returned (.bool b) ∧ Below w.heap.size w w' := by
 have HB := as_ (Below.refl w.heap.size w)
 have hT := typeOf_code (.int .i64 d)
 have hM := comparable_code
 have hR := comparable_run
 go_enter Tryz.func48, Tryz.ntmps48
 go_wp2_with fail
 refine (hIs _ (by repeat (first | exact HB.out | apply below_alloc | apply pw_below_drewN | apply below_drew1))).mono ?_
 rintro e w' ⟨rfl, ⟨nd, rfl⟩⟩
 go_wp2
 go_ret
 exact ⟨rfl, by repeat (first | exact HB.out | apply below_alloc | apply pw_below_drewN | apply below_drew1)⟩
set_option maxRecDepth 100000 in
set_option maxHeartbeats 4000000 in
theorem join_Unwrap (gj : Nat) (v : Value) (w : World) (hj : w.cell? ⟨gj, 0, none⟩ = some v) : Calls Tryz.prog 118 #[.pointer (some ⟨gj, 0, none⟩)] w fun e w' => e = .returned v ∧ Drawn0 w w' := by
 go_enter Tryz.func118, Tryz.ntmps118
 go_wp2
 go_ret
 exact ⟨rfl, by repeat (first | exact Drawn0.refl _ | apply Drawn0.step)⟩
theorem assert_has (t : TypeId) (v : Value) (T x : TypeId) (W : World) (want : Array (String × TypeId)) (i : TypeInfo) (hu : Tryz.prog.underlying T = some (.interface want)) (hi : Tryz.prog.info? t = some i) (hm : Instr.missingMethod want i.methods = none) : (Instr.typeAssert (.iface t v) x T true).run Tryz.prog W = .ok (.tuple #[.iface t v, .bool true]) W := by
 simp [Instr.typeAssert, run_underlying hu, typeInfo, hi, hm, Result.andThen]
theorem missing_none (want : Array (String × TypeId)) (got : Array Method) (h : ((want.toList.filter fun (x : String × TypeId) => !got.any fun m => m.name == x.1 && m.sig == x.2).isEmpty) = true) : Instr.missingMethod want got = none := by
 unfold Instr.missingMethod
 simp only
 generalize hL : (want.toList.filter fun (x : String × TypeId) => match x with | (name, sig) => !got.any fun m => m.name == name && m.sig == sig) = L
 have hL' : L.isEmpty = true := by rw [← hL]; exact h
 cases L with
 | nil => rfl
 | cons a r => cases hL'
theorem unwrap_row (n : Nat) (v : Value) (W : World) : (method (n + 1) 134 v "Unwrap").run Tryz.prog W = .ok (118, v) W :=
 method_val n _ v _ _ true W (by kernel_rfl) (fun y => receiver_ptr _ v W y (by kernel_rfl))
theorem assert_join (v : Value) (W : World) : (Instr.typeAssert (.iface 134 v) 63 131 true).run Tryz.prog W = .ok (.tuple #[.iface 134 v, .bool true]) W := by
 have h : (match Tryz.prog.underlying 131, Tryz.prog.info? 134 with | some (.interface want), some i => ((want.toList.filter fun (x : String × TypeId) => !i.methods.any fun m => m.name == x.1 && m.sig == x.2).isEmpty) | _, _ => false) = true := by kernel_rfl
 cases hu : Tryz.prog.underlying 131 with
 | none => rw [hu] at h; simp at h
 | some d =>
  cases hi : Tryz.prog.info? 134 with
  | none => rw [hu, hi] at h; cases d <;> simp at h
  | some i =>
   rw [hu, hi] at h
   cases d with
   | interface want => exact assert_has _ _ _ _ W want i hu hi (missing_none want i.methods h)
   | _ => simp at h
set_option maxRecDepth 100000 in
set_option maxHeartbeats 4000000 in
theorem is_join (gj ga : Nat) (cap : Nat) (u : Value) (c d : Int) (w : World) (hj : w.cell? ⟨gj, 0, none⟩ = some (.slice (some ⟨ga, 0, none⟩) 2 cap)) (h0 : w.cell? ⟨ga, 0, none⟩ = some (.iface 137 u)) (h1 : w.cell? ⟨ga, 1, none⟩ = some (.iface 27 (.int .i64 c))) :
  Calls Tryz.prog 64 #[.iface 134 (.pointer (some ⟨gj, 0, none⟩)), .iface 27 (.int .i64 d), .bool true] w fun e w' => e = .returned (.bool (c == d)) ∧ Drawn0 w w' := by
 have heq : ∀ W : World, _ := fun W => eq_other 134 (.pointer (some ⟨gj, 0, none⟩)) d W (by decide)
 have ha1 : ∀ W : World, _ := fun W => assert_is 134 (.pointer (some ⟨gj, 0, none⟩)) W (by kernel_rfl)
 have ha2 : ∀ W : World, _ := fun W => assert_un 134 (.pointer (some ⟨gj, 0, none⟩)) W (by kernel_rfl)
 have ha3 := assert_join (.pointer (some ⟨gj, 0, none⟩))
 have hM := unwrap_row
 go_enter Tryz.func64, Tryz.ntmps64
 go_wp2
 go_loopg [0] 1 (fun kq v0 w' => v0 = .iface 134 (.pointer (some ⟨gj, 0, none⟩)) ∧ w' = w)
 case atStart => exact ⟨rfl, rfl⟩
 case round =>
  obtain ⟨rfl, rfl⟩ := hrel
  go_wp2_with fail
  refine (join_Unwrap gj _ _ hj).mono ?_
  rintro e w' ⟨rfl, ⟨nd, rfl⟩⟩
  go_wp2
  go_loopg [45] 3 (fun kq v45 w' => ∃ x45 : Int, v45 = .int .i64 x45 ∧ Aside0 ((x45 = 0 ∧ kq = 3) ∨ (x45 = 1 ∧ kq = 2) ∨ (x45 = 2 ∧ kq = 1 ∧ (c == d) = false)) ∧ Drawn0 wr w')
  case atStart => exact ⟨0, rfl, ⟨.inl ⟨rfl, rfl⟩⟩, ⟨_, rfl⟩⟩
  case round =>
   obtain ⟨x45, rfl, ⟨hc⟩, ⟨nd2, rfl⟩⟩ := hrel
   rcases hc with ⟨rfl, rfl⟩ | ⟨rfl, rfl⟩ | ⟨rfl, rfl, hcd⟩
   ·go_wp2_with fail
    refine (is_text u d _).mono ?_
    rintro e w' ⟨rfl, ⟨nd3, rfl⟩⟩
    go_wp2
    go_roundg 2
    exact ⟨1, rfl, ⟨.inr (.inl ⟨rfl, rfl⟩)⟩, by repeat (first | exact Drawn0.refl _ | apply Drawn0.step)⟩
    omega
   ·go_wp2_with fail
    refine (is_code c d _).mono ?_
    rintro e w' ⟨rfl, ⟨nd3, rfl⟩⟩
    cases hcd : (c == d)
    ·go_wp2
     go_roundg 1
     exact ⟨2, rfl, ⟨.inr (.inr ⟨rfl, rfl, hcd⟩)⟩, by repeat (first | exact Drawn0.refl _ | apply Drawn0.step)⟩
     omega
    ·go_wp2
     go_ret
     exact ⟨by rw [hcd]; rfl, by repeat (first | exact Drawn0.refl _ | apply Drawn0.step)⟩
   ·go_wp2
    go_ret
    exact ⟨by rw [hcd]; rfl, by repeat (first | exact Drawn0.refl _ | apply Drawn0.step)⟩
theorem eq_nil (t : TypeId) (v : Value) (W : World) : (binOp .eql 63 (.iface t v) .nilIface).run Tryz.prog W = .ok (.bool false) W := by
 have hi : Tryz.prog.underlying 63 = some (.interface (Tryz.prog.methodsAt 63)) := by kernel_rfl
 have h : ∀ n : Nat, (Op.equalIn (n + 2) 63 (.iface t v) .nilIface).run Tryz.prog W = .ok false W := fun n => by
  simp [Op.equalIn, run_underlying hi]
 simp only [binOp]
 simp [Op.equal, Op.maxDepth, h 9998]
theorem eq_nils (W : World) : (binOp .eql 63 .nilIface .nilIface).run Tryz.prog W = .ok (.bool true) W := by
 have hi : Tryz.prog.underlying 63 = some (.interface (Tryz.prog.methodsAt 63)) := by kernel_rfl
 have h : ∀ n : Nat, (Op.equalIn (n + 2) 63 .nilIface .nilIface).run Tryz.prog W = .ok true W := fun n => by
  simp [Op.equalIn, run_underlying hi]
 simp only [binOp]
 simp [Op.equal, Op.maxDepth, h 9998]
theorem eq_nil' (t : TypeId) (v : Value) (W : World) : (binOp .eql 63 .nilIface (.iface t v)).run Tryz.prog W = .ok (.bool false) W := by
 have hi : Tryz.prog.underlying 63 = some (.interface (Tryz.prog.methodsAt 63)) := by kernel_rfl
 have h : ∀ n : Nat, (Op.equalIn (n + 2) 63 .nilIface (.iface t v)).run Tryz.prog W = .ok false W := fun n => by
  simp [Op.equalIn, run_underlying hi]
 simp only [binOp]
 simp [Op.equal, Op.maxDepth, h 9998]
set_option maxRecDepth 100000 in
set_option maxHeartbeats 4000000 in
theorem New_calls (s : ByteArray) (w : World) : Calls Tryz.prog 66 #[.string s] w fun e w' => ∃ u, e = .returned (.iface 137 u) ∧ Below w.heap.size w w' := by
 have HB := as_ (Below.refl w.heap.size w)
 go_enter Tryz.func66, Tryz.ntmps66
 go_wp2
 go_ret
 exact ⟨_, rfl, by repeat (first | exact HB.out | apply below_alloc | apply pw_below_drewN | apply below_drew1)⟩
theorem cell_lt {w : World} {a : Addr} {v : Value} (h : w.cell? a = some v) : a.block < w.heap.size := by
 rcases Nat.lt_or_ge a.block w.heap.size with h' | h'
 ·exact h'
 ·simp [World.cell?, Array.getElem?_eq_none h'] at h
theorem make_errs (W : World) : (Instr.makeSlice 132 (.int .i64 0) (.int .i64 2)).run Tryz.prog W = .ok (.slice (some ⟨W.heap.size, 0, none⟩) 0 2) (W.alloc (.cells #[.nilIface, .nilIface] 63)) := by
 have hu : Tryz.prog.underlying 132 = some (.slice 63) := by kernel_rfl
 have h : (Tryz.prog.info? 63).map (fun i => (i.zero, i.size, i.bytes)) = some (some .nilIface, 1, 16) := by kernel_rfl
 cases hi : Tryz.prog.info? 63 with
 | none => rw [hi] at h; cases h
 | some i =>
  rw [hi] at h
  simp only [Option.map_some, Option.some.injEq, Prod.mk.injEq] at h
  have hr := run_makeSlice (P := Tryz.prog) (w := W) 132 63 i .nilIface hu hi h.1 .i64 .i64 0 2 (by decide) (by decide) (by rw [h.2.1]; decide) (by rw [h.2.2]; decide) (by decide)
  have hm : madeCells Value.nilIface.cells (Int.toNat 2 * 1) = #[.nilIface, .nilIface] := by kernel_rfl
  rw [hr, h.2.1, hm]
  rfl
set_option maxRecDepth 100000 in
set_option maxHeartbeats 4000000 in
theorem Join_calls (ga : Nat) (u : Value) (c : Int) (w : World) (h0 : w.cell? ⟨ga, 0, none⟩ = some (.iface 137 u)) (h1 : w.cell? ⟨ga, 1, none⟩ = some (.iface 27 (.int .i64 c))) :
  Calls Tryz.prog 65 #[.slice (some ⟨ga, 0, none⟩) 2 2] w fun e w' => ∃ gj gb cap u2, e = .returned (.iface 134 (.pointer (some ⟨gj, 0, none⟩))) ∧ w'.cell? ⟨gj, 0, none⟩ = some (.slice (some ⟨gb, 0, none⟩) 2 cap) ∧ w'.cell? ⟨gb, 0, none⟩ = some (.iface 137 u2) ∧ w'.cell? ⟨gb, 1, none⟩ = some (.iface 27 (.int .i64 c)) ∧ gj < w'.heap.size ∧ gb < w'.heap.size ∧ Below w.heap.size w w' := by
 have HB := as_ (Below.refl w.heap.size w)
 have hn := eq_nil
 have hmk := make_errs
 go_enter Tryz.func65, Tryz.ntmps65
 go_wp2
 go_loopg [3, 11] 3 (fun kq v3 v11 w' => ∃ x11 : Int, v3 = .int .i64 x11 ∧ v11 = .int .i64 x11 ∧ Aside0 ((x11 = 0 ∧ kq = 3) ∨ (x11 = 1 ∧ kq = 2) ∨ (x11 = 2 ∧ kq = 1)) ∧ Drawn0 w w')
 case atStart => exact ⟨0, rfl, rfl, ⟨.inl ⟨rfl, rfl⟩⟩, ⟨0, rfl⟩⟩
 case round =>
  obtain ⟨x11, rfl, rfl, ⟨hc⟩, ⟨nd2, rfl⟩⟩ := hrel
  rcases hc with ⟨rfl, rfl⟩ | ⟨rfl, rfl⟩ | ⟨rfl, rfl⟩
  ·go_wp2
   go_roundg 2
   exact ⟨1, rfl, rfl, ⟨.inr (.inl ⟨rfl, rfl⟩)⟩, by repeat (first | exact Drawn0.refl _ | apply Drawn0.step)⟩
   omega
  ·go_wp2
   go_roundg 1
   exact ⟨2, rfl, rfl, ⟨.inr (.inr ⟨rfl, rfl⟩)⟩, by repeat (first | exact Drawn0.refl _ | apply Drawn0.step)⟩
   omega
  ·go_wp2
   go_loopg [28] 3 (fun kq v28 w' => ∃ x28 : Int, v28 = .int .i64 x28 ∧ Aside0 (Below w.heap.size w w' ∧ w.heap.size + 1 < w'.heap.size ∧ w'.frozen? ⟨w.heap.size, 0, none⟩ = false ∧ w'.frozen? ⟨w.heap.size, 1, none⟩ = false ∧ w'.frozen? ⟨w.heap.size + 1, 0, none⟩ = false) ∧ w'.cell? ⟨ga, 0, none⟩ = some (.iface 137 u) ∧ w'.cell? ⟨ga, 1, none⟩ = some (.iface 27 (.int .i64 c)) ∧
    ((x28 = 0 ∧ kq = 3 ∧ w'.cell? ⟨w.heap.size + 1, 0, none⟩ = some (.slice (some ⟨w.heap.size, 0, none⟩) 0 2) ∧ w'.cell? ⟨w.heap.size, 0, none⟩ = some .nilIface ∧ w'.cell? ⟨w.heap.size, 1, none⟩ = some .nilIface) ∨
     (x28 = 1 ∧ kq = 2 ∧ w'.cell? ⟨w.heap.size + 1, 0, none⟩ = some (.slice (some ⟨w.heap.size, 0, none⟩) 1 2) ∧ w'.cell? ⟨w.heap.size, 0, none⟩ = some (.iface 137 u) ∧ w'.cell? ⟨w.heap.size, 1, none⟩ = some .nilIface) ∨
     (x28 = 2 ∧ kq = 1 ∧ w'.cell? ⟨w.heap.size + 1, 0, none⟩ = some (.slice (some ⟨w.heap.size, 0, none⟩) 2 2) ∧ w'.cell? ⟨w.heap.size, 0, none⟩ = some (.iface 137 u) ∧ w'.cell? ⟨w.heap.size, 1, none⟩ = some (.iface 27 (.int .i64 c)))))
   case atStart =>
    have hb2 : ga < w.heap.size := cell_lt h0
    have hb3 : ga ≠ w.heap.size := Nat.ne_of_lt hb2
    have hb4 : ga ≠ w.heap.size + 1 := by omega
    have hb5 : ga < w.heap.size + 1 := by omega
    refine ⟨0, rfl, ⟨⟨?_, ?_, ?_, ?_, ?_⟩⟩, ?_, ?_, .inl ⟨rfl, rfl, ?_, ?_, ?_⟩⟩
    ·exact Below.alloc (Below.alloc (pw_below_drewN HB.out _) (Nat.le_refl _) _) (by simp) _
    ·simp
    ·simp [go_sem]; exact World.frozen?_alloc_new (w := w.drewN nd2) _ _ _
    ·simp [go_sem]; exact World.frozen?_alloc_new (w := w.drewN nd2) _ _ _
    ·simp [go_sem]
    ·simp [go_sem, *]; exact (World.cell?_alloc_lt (w.drewN nd2) _ _ hb2).trans h0
    ·simp [go_sem, *]; exact (World.cell?_alloc_lt (w.drewN nd2) _ _ hb2).trans h1
    ·simp [go_sem]
    ·simp [go_sem]; exact World.cell?_alloc_new (w := w.drewN nd2) _ _ 0
    ·simp [go_sem]; exact World.cell?_alloc_new (w := w.drewN nd2) _ _ 1
   case round =>
    obtain ⟨x28, rfl, ⟨HB2, hsz, f0, f1, f2⟩, g0, g1, hc⟩ := hrel
    have hb0 : w.heap.size < wr.heap.size := by omega
    have hb2 : ga < wr.heap.size := cell_lt g0
    have hb3 : ga ≠ w.heap.size := Nat.ne_of_lt (cell_lt h0)
    have hb4 : ga ≠ w.heap.size + 1 := by have := cell_lt h0; simp only at this; omega
    have HB3 := Aside0.mk HB2
    clear HB2
    rcases hc with ⟨rfl, rfl, hx, hr0, hr1⟩ | ⟨rfl, rfl, hx, hr0, hr1⟩ | ⟨rfl, rfl, hx, hr0, hr1⟩
    ·go_wp2
     go_roundg 2
     ·refine ⟨1, rfl, ⟨⟨?_, ?_, ?_, ?_, ?_⟩⟩, ?_, ?_, .inr (.inl ⟨rfl, rfl, ?_, ?_, ?_⟩)⟩
      ·exact Below.alloc (Below.setCell (Below.setCell HB3.out (p := ⟨w.heap.size, 0, none⟩) (Nat.le_refl _) _) (p := ⟨w.heap.size + 1, 0, none⟩) (Nat.le_succ _) _) (by simp only [World.size_setCell]; omega) _
      ·simp only [World.size_alloc, World.size_setCell]
       omega
      all_goals
       simp [go_sem, *]
     ·omega
    ·go_wp2
     go_roundg 1
     ·refine ⟨2, rfl, ⟨⟨?_, ?_, ?_, ?_, ?_⟩⟩, ?_, ?_, .inr (.inr ⟨rfl, rfl, ?_, ?_, ?_⟩)⟩
      ·exact Below.alloc (Below.setCell (Below.setCell HB3.out (p := ⟨w.heap.size, 1, none⟩) (Nat.le_refl _) _) (p := ⟨w.heap.size + 1, 0, none⟩) (Nat.le_succ _) _) (by simp only [World.size_setCell]; omega) _
      ·simp only [World.size_alloc, World.size_setCell]
       omega
      all_goals
       simp [go_sem, *]
     ·omega
    ·go_wp2
     go_ret
     exact ⟨w.heap.size + 1, w.heap.size, 2, u, rfl, hx, hr0, hr1, by omega, by omega, HB3.out⟩
set_option maxRecDepth 100000 in
set_option maxHeartbeats 4000000 in
theorem fault_calls (s : ByteArray) (c : Int) (w : World) : Calls Tryz.prog 49 #[.int .i64 c, .string s] w fun e w' => ∃ gj gb cap u2, e = .returned (.iface 134 (.pointer (some ⟨gj, 0, none⟩))) ∧ w'.cell? ⟨gj, 0, none⟩ = some (.slice (some ⟨gb, 0, none⟩) 2 cap) ∧ w'.cell? ⟨gb, 0, none⟩ = some (.iface 137 u2) ∧ w'.cell? ⟨gb, 1, none⟩ = some (.iface 27 (.int .i64 c)) ∧ gj < w'.heap.size ∧ gb < w'.heap.size ∧ Below w.heap.size w w' := by
 have HB := as_ (Below.refl w.heap.size w)
 go_enter Tryz.func49, Tryz.ntmps49
 go_wp2_with fail
 refine (New_calls s _).mono ?_
 rintro e w1 ⟨u, rfl, hb1⟩
 have HB1 := as_ (HB.out.trans hb1)
 clear hb1
 go_wp2_with fail
 refine (Join_calls _ u c _ ?_ ?_).mono ?_
 ·simp [go_sem]
 ·simp [go_sem]
 rintro e w2 ⟨gj, gb, cap, u2, rfl, j1, j2, j3, j4, j5, hb2⟩
 have HB2 := as_ ((Below.alloc HB1.out HB1.out.size _).trans (hb2.mono (by simp; exact Nat.le_succ_of_le HB1.out.size)))
 clear hb2
 go_wp2
 go_ret
 exact ⟨gj, gb, cap, u2, rfl, j1, j2, j3, j4, j5, HB2.out⟩
def Errs (v : Value) (c : Int) (w : World) : Prop := (c = 0 ∧ v = .nilIface) ∨ (c ≠ 0 ∧ ∃ gj gb cap u2, v = .iface 134 (.pointer (some ⟨gj, 0, none⟩)) ∧ w.cell? ⟨gj, 0, none⟩ = some (.slice (some ⟨gb, 0, none⟩) 2 cap) ∧ w.cell? ⟨gb, 0, none⟩ = some (.iface 137 u2) ∧ w.cell? ⟨gb, 1, none⟩ = some (.iface 27 (.int .i64 c)))
theorem Errs.below {v : Value} {c : Int} {w W : World} {n : Nat} (h : Errs v c w) (hn : w.heap.size ≤ n) (hb : Below n w W) : Errs v c W := by
 rcases h with h | ⟨hc, gj, gb, cap, u2, rfl, h1, h2, h3⟩
 ·exact .inl h
 ·have l1 := cell_lt h1
  have l2 := cell_lt h2
  have l3 := cell_lt h3
  exact .inr ⟨hc, gj, gb, cap, u2, rfl, (hb.cell (Nat.lt_of_lt_of_le l1 hn)).trans h1, (hb.cell (Nat.lt_of_lt_of_le l2 hn)).trans h2, (hb.cell (Nat.lt_of_lt_of_le l3 hn)).trans h3⟩
set_option maxRecDepth 100000 in
set_option maxHeartbeats 4000000 in
theorem Is_nil (d : Int) (w : World) : Calls Tryz.prog 48 #[.nilIface, .iface 27 (.int .i64 d)] w fun e w' => e = .returned (.bool false) ∧ Below w.heap.size w w' := by
 have HB := as_ (Below.refl w.heap.size w)
 have h1 := eq_nil' 27 (.int .i64 d)
 have h2 := eq_nils
 go_enter Tryz.func48, Tryz.ntmps48
 go_wp2
 go_ret
 exact ⟨rfl, by repeat (first | exact HB.out | apply below_alloc | apply pw_below_drewN | apply below_drew1)⟩
theorem Is_any (v : Value) (c d : Int) (hd : d ≠ 0) (w : World) (h : Errs v c w) : Calls Tryz.prog 48 #[v, .iface 27 (.int .i64 d)] w fun e w' => e = .returned (.bool (c == d)) ∧ Below w.heap.size w w' := by
 rcases h with ⟨rfl, rfl⟩ | ⟨hc, gj, gb, cap, u2, rfl, h1, h2, h3⟩
 ·have hf : ((0 : Int) == d) = false := by simpa using fun h => hd h.symm
  rw [hf]
  exact Is_nil d w
 ·refine Is_leaf _ _ d _ w (eq_nil _ _) (eq_nil _ _) (fun W hb => ?_)
  exact is_join gj gb cap u2 c d W ((hb.cell (cell_lt h1)).trans h1) ((hb.cell (cell_lt h2)).trans h2) ((hb.cell (cell_lt h3)).trans h3)
set_option maxRecDepth 100000 in
set_option maxHeartbeats 4000000 in
theorem number_calls (v : Value) (c : Int) (hc : c = 0 ∨ c = 4 ∨ c = 3 ∨ c = 8) (w : World) (h : Errs v c w) : Calls Tryz.prog 29 #[v] w fun e w' => e = .returned (.int .i64 c) ∧ Below w.heap.size w w' := by
 have HB := as_ (Below.refl w.heap.size w)
 go_enter Tryz.func29, Tryz.ntmps29
 go_wp2
 go_loopg [7] 4 (fun kq v7 w' => ∃ x7 : Int, v7 = .int .i64 x7 ∧ Aside0 (Below w.heap.size w w' ∧ Errs v c w') ∧ w'.cell? ⟨w.heap.size, 0, none⟩ = some (.int .i64 4) ∧ w'.cell? ⟨w.heap.size, 1, none⟩ = some (.int .i64 3) ∧ w'.cell? ⟨w.heap.size, 2, none⟩ = some (.int .i64 8) ∧
  Aside0 ((x7 = 0 ∧ kq = 4) ∨ (x7 = 1 ∧ kq = 3 ∧ (c == 4) = false) ∨ (x7 = 2 ∧ kq = 2 ∧ (c == 4) = false ∧ (c == 3) = false) ∨ (x7 = 3 ∧ kq = 1 ∧ (c == 4) = false ∧ (c == 3) = false ∧ (c == 8) = false)))
 case atStart =>
  refine ⟨0, rfl, ⟨Below.alloc HB.out (Nat.le_refl _) _, h.below (Nat.le_refl _) (Below.alloc HB.out (Nat.le_refl _) _)⟩, ?_, ?_, ?_, ⟨.inl ⟨rfl, rfl⟩⟩⟩
  all_goals simp [go_sem]
 case round =>
  obtain ⟨x7, rfl, ⟨hb, he⟩, g0, g1, g2, ⟨hx⟩⟩ := hrel
  have HB2 := Aside0.mk hb
  clear hb
  rcases hx with ⟨rfl, rfl⟩ | ⟨rfl, rfl, c4⟩ | ⟨rfl, rfl, c4, c3⟩ | ⟨rfl, rfl, c4, c3, c8⟩
  ·go_wp2_with fail
   refine (Is_any v c 4 (by decide) _ he).mono ?_
   rintro e w' ⟨rfl, hb3⟩
   have g0' := (hb3.cell (cell_lt g0)).trans g0
   have g1' := (hb3.cell (cell_lt g1)).trans g1
   have g2' := (hb3.cell (cell_lt g2)).trans g2
   have he' := he.below (Nat.le_refl _) hb3
   have HB3 := as_ (HB2.out.trans (hb3.mono HB2.out.size))
   clear hb3
   cases hcd : (c == 4)
   ·go_wp2
    go_roundg 3
    ·exact ⟨1, rfl, ⟨HB3.out, he'⟩, g0', g1', g2', ⟨.inr (.inl ⟨rfl, rfl, hcd⟩)⟩⟩
    ·omega
   ·have hcd' : c = 4 := by simpa using hcd
    go_wp2
    go_ret
    exact ⟨by rw [hcd']; rfl, HB3.out⟩
  ·go_wp2_with fail
   refine (Is_any v c 3 (by decide) _ he).mono ?_
   rintro e w' ⟨rfl, hb3⟩
   have g0' := (hb3.cell (cell_lt g0)).trans g0
   have g1' := (hb3.cell (cell_lt g1)).trans g1
   have g2' := (hb3.cell (cell_lt g2)).trans g2
   have he' := he.below (Nat.le_refl _) hb3
   have HB3 := as_ (HB2.out.trans (hb3.mono HB2.out.size))
   clear hb3
   cases hcd : (c == 3)
   ·go_wp2
    go_roundg 2
    ·exact ⟨2, rfl, ⟨HB3.out, he'⟩, g0', g1', g2', ⟨.inr (.inr (.inl ⟨rfl, rfl, c4, hcd⟩))⟩⟩
    ·omega
   ·have hcd' : c = 3 := by simpa using hcd
    go_wp2
    go_ret
    exact ⟨by rw [hcd']; rfl, HB3.out⟩
  ·go_wp2_with fail
   refine (Is_any v c 8 (by decide) _ he).mono ?_
   rintro e w' ⟨rfl, hb3⟩
   have g0' := (hb3.cell (cell_lt g0)).trans g0
   have g1' := (hb3.cell (cell_lt g1)).trans g1
   have g2' := (hb3.cell (cell_lt g2)).trans g2
   have he' := he.below (Nat.le_refl _) hb3
   have HB3 := as_ (HB2.out.trans (hb3.mono HB2.out.size))
   clear hb3
   cases hcd : (c == 8)
   ·go_wp2
    go_roundg 1
    ·exact ⟨3, rfl, ⟨HB3.out, he'⟩, g0', g1', g2', ⟨.inr (.inr (.inr ⟨rfl, rfl, c4, c3, hcd⟩))⟩⟩
    ·omega
   ·have hcd' : c = 8 := by simpa using hcd
    go_wp2
    go_ret
    exact ⟨by rw [hcd']; rfl, HB3.out⟩
  ·have c0 : c = 0 := by
    rcases hc with h | h | h | h
    ·exact h
    all_goals (subst h; simp at c4 c3 c8)
   go_wp2
   go_ret
   exact ⟨by rw [c0]; rfl, HB2.out⟩
def head_may.sized (p : Int) : Bool := decide (p = 128) || decide (p = 256) || decide (p = 512) || decide (p = 1024)
def head_may.right (a0_0 a0_1 a0_2 a0_3 a0_4 : Int) : Bool := decide (a0_0 ≥ 1) && decide (a0_0 < 5) && decide (0 ≤ a0_1) && decide (a0_1 < 256) && decide (0 ≤ a0_2) && decide (a0_2 < 65536) && decide (0 ≤ a0_3) && decide (a0_3 < 4096) && decide (0 ≤ a0_4) && decide (a0_4 < 4096)
def head_may.code (a0_0 a0_1 a0_2 a0_3 a0_4 : Int) (body : ByteArray) (p : Int) : Int := if head_may.sized p = true then (if head_may.right a0_0 a0_1 a0_2 a0_3 a0_4 = true then (if p - 16 < (body.size : Int) then 8 else 0) else 3) else 4
def head_may.f (a0_0 a0_1 a0_2 a0_3 a0_4 : Int) (body : ByteArray) (p : Int) : Option Int := some (head_may.code a0_0 a0_1 a0_2 a0_3 a0_4 body p)
theorem within_one (b x : Int) : head_within.f 2 b [x] = some (decide (0 ≤ x) && decide (x < b)) := by
 simp only [head_within.f, head_within.l0, rd, List.length_cons, List.length_nil]
 by_cases h0 : x < 0 <;> by_cases h1 : x ≥ b <;> simp [h0, h1, wrap64] <;> omega
theorem within_two (b x y : Int) : head_within.f 3 b [x, y] = some (decide (0 ≤ x) && decide (x < b) && decide (0 ≤ y) && decide (y < b)) := by
 simp only [head_within.f, head_within.l0, rd, List.length_cons, List.length_nil]
 by_cases h0 : x < 0 <;> by_cases h1 : x ≥ b <;> by_cases h2 : y < 0 <;> by_cases h3 : y ≥ b <;> simp [h0, h1, h2, h3, wrap64] <;> omega
theorem right_eq (a0 a1 a2 a3 a4 : Int) : head_Right.f 3 a0 a1 a2 a3 a4 = some (head_may.right a0 a1 a2 a3 a4) := by
 have m : ∀ b x, head_within.f 3 b [x] = some (decide (0 ≤ x) && decide (x < b)) := fun b x => head_within.mono b [x] 2 _ (within_one b x)
 simp only [head_Right.f, m, within_two, head_may.right, Option.bind_some]
 by_cases h0 : a0 ≥ 1 <;> by_cases h1 : a0 < 5 <;> simp only [h0, h1, if_true, if_false, decide_true, decide_false, Bool.true_and, Bool.false_and]
 cases hA : (decide (0 ≤ a1) && decide (a1 < 256)) <;> cases hB : (decide (0 ≤ a2) && decide (a2 < 65536)) <;> simp_all <;> (intros; omega)
set_option maxRecDepth 100000 in
set_option maxHeartbeats 4000000 in
theorem head_may.calls (a0_0 a0_1 a0_2 a0_3 a0_4 : Int) (body : ByteArray) (p : Int) (r : Int) (w : World) (h : head_may.f a0_0 a0_1 a0_2 a0_3 a0_4 body p = some r) :
  Calls Tryz.prog 30 #[.agg #[.int .i64 a0_0, .int .i64 a0_1, .int .i64 a0_2, .int .i64 a0_3, .int .i64 a0_4], .string body, .int .i64 p] w fun e w' => ∃ v, e = .returned v ∧ Errs v r w' ∧ (r = 0 ∨ r = 4 ∨ r = 3 ∨ r = 8) ∧ Below w.heap.size w w' := by
 have HB := as_ (Below.refl w.heap.size w)
 have H := as_ (Option.some.inj h)
 clear h
 have hu23 := Tryz.underlying48
 go_enter Tryz.func30, Tryz.ntmps30
 go_wp2_with fail
 refine (disk_Size.calls p (head_may.sized p) _ rfl).mono ?_
 rintro e w1 ⟨rfl, hb⟩
 have HB1 := as_ ((Below.alloc HB.out (Nat.le_refl _) _).trans (hb.mono (by simp)))
 have c0 : w1.cell? ⟨w.heap.size, 0, none⟩ = some (.int .i64 a0_0) := (hb.cell (p := ⟨w.heap.size, 0, none⟩) (by simp)).trans (World.cell?_alloc_new w _ _ 0)
 have c1 : w1.cell? ⟨w.heap.size, 1, none⟩ = some (.int .i64 a0_1) := (hb.cell (p := ⟨w.heap.size, 1, none⟩) (by simp)).trans (World.cell?_alloc_new w _ _ 1)
 have c2 : w1.cell? ⟨w.heap.size, 2, none⟩ = some (.int .i64 a0_2) := (hb.cell (p := ⟨w.heap.size, 2, none⟩) (by simp)).trans (World.cell?_alloc_new w _ _ 2)
 have c3 : w1.cell? ⟨w.heap.size, 3, none⟩ = some (.int .i64 a0_3) := (hb.cell (p := ⟨w.heap.size, 3, none⟩) (by simp)).trans (World.cell?_alloc_new w _ _ 3)
 have c4 : w1.cell? ⟨w.heap.size, 4, none⟩ = some (.int .i64 a0_4) := (hb.cell (p := ⟨w.heap.size, 4, none⟩) (by simp)).trans (World.cell?_alloc_new w _ _ 4)
 cases hs : head_may.sized p
 ·go_wp2_with fail
  refine (fault_calls _ 4 _).mono ?_
  rintro e w2 ⟨gj, gb, cap, u2, rfl, j1, j2, j3, j4, j5, hb2⟩
  have hr : r = 4 := by rw [← H.out]; simp [head_may.code, hs]
  have HB2 := as_ (HB1.out.trans (hb2.mono (HB1.out.size)))
  clear hb2 
  go_wp2
  go_ret
  exact ⟨_, rfl, .inr ⟨by omega, gj, gb, cap, u2, rfl, j1, j2, by rw [hr]; exact j3⟩, by omega, HB2.out⟩
 ·go_wp2_with fail
  refine (head_Right.calls 3 a0_0 a0_1 a0_2 a0_3 a0_4 _ _ (right_eq _ _ _ _ _)).mono ?_
  rintro e w2 ⟨rfl, hb2⟩
  have HB2 := as_ (HB1.out.trans (hb2.mono (HB1.out.size)))
  clear hb2
  cases hR : head_may.right a0_0 a0_1 a0_2 a0_3 a0_4
  ·go_wp2_with fail
   refine (fault_calls _ 3 _).mono ?_
   rintro e w3 ⟨gj, gb, cap, u2, rfl, j1, j2, j3, j4, j5, hb3⟩
   have hr : r = 3 := by rw [← H.out]; simp [head_may.code, hs, hR]
   have HB3 := as_ (HB2.out.trans (hb3.mono (HB2.out.size)))
   clear hb3
   go_wp2
   go_ret
   exact ⟨_, rfl, .inr ⟨by omega, gj, gb, cap, u2, rfl, j1, j2, by rw [hr]; exact j3⟩, by omega, HB3.out⟩
  ·have hp : p = 128 ∨ p = 256 ∨ p = 512 ∨ p = 1024 := by simpa [head_may.sized, or_assoc] using hs
   have hw1 : (IntKind.i64.wrap (p - 16)) = p - 16 := by rw [IntKind.wrap_i64]; omega
   cases hL : decide (p - 16 < (body.size : Int))
   ·have hL' : ¬ p - 16 < (body.size : Int) := of_decide_eq_false hL
    have hr : r = 0 := by rw [← H.out]; simp only [head_may.code, hs, hR, if_true, if_neg hL']
    go_wp2
    go_ret
    exact ⟨_, rfl, .inl ⟨hr, rfl⟩, .inl hr, HB2.out⟩
   ·have hL' : p - 16 < (body.size : Int) := of_decide_eq_true hL
    have hr : r = 8 := by rw [← H.out]; simp only [head_may.code, hs, hR, if_true, if_pos hL']
    go_wp2_with fail
    refine (fault_calls _ 8 _).mono ?_
    rintro e w3 ⟨gj, gb, cap, u2, rfl, j1, j2, j3, j4, j5, hb3⟩
    have HB3 := as_ (HB2.out.trans (hb3.mono (HB2.out.size)))
    clear hb3
    go_wp2
    go_ret
    exact ⟨_, rfl, .inr ⟨by omega, gj, gb, cap, u2, rfl, j1, j2, by rw [hr]; exact j3⟩, by omega, HB3.out⟩
theorem head_may.calls2 (v : Value) (c : Int) (hc : c = 0 ∨ c = 4 ∨ c = 3 ∨ c = 8) (w : World) (h : Errs v c w) : Calls Tryz.prog 29 #[v] w fun e w' => e = .returned (.int .i64 c) ∧ Below w.heap.size w w' := number_calls v c hc w h


/-! ### head_bytes: function 31 -/
def head_bytes.l0 : Nat → List Int → List Int → Int → Int → Option (ByteArray)
 | 0, _, _, _, _ => none
 | k + 1, x3, x6, x7, x8 => if x8 < x7 then (if 0 ≤ x8 then (if x8 < (x6.length : Int) then (if x3.length < 140737488355328 then (head_bytes.l0 k (x3 ++ [(rd x6 x8) % 256]) x6 x7 (wrap64 (x8 + 1))) else (none)) else (none)) else (none)) else (some (strOfNums x3))
def head_bytes.f (k : Nat) (l0 : List Int) : Option (ByteArray) := head_bytes.l0 k ([] : List Int) l0 (l0.length : Int) 0
theorem head_bytes.mono_l : ∀ k, (∀ y0 y1 y2 y3, LeO (head_bytes.l0 k y0 y1 y2 y3) (head_bytes.l0 (k + 1) y0 y1 y2 y3))
 | 0 => fun _ _ _ _ r h => by simp [head_bytes.l0] at h
 | k + 1 => by
  have ih0 := head_bytes.mono_l k
  ·intro y0 y1 y2 y3
   unfold head_bytes.l0
   repeat' first
   | (with_reducible exact ih0 _ _ _ _)
   | (with_reducible exact LeO.refl _)
   | (with_reducible exact LeO.none _)
   | (with_reducible refine LeO.ite ?_ ?_)
   | (with_reducible refine LeO.bind ?_ (fun _ => ?_))
   | exact ih0 _ _ _ _
   | exact LeO.none _
   | refine LeO.ite ?_ ?_
   | refine LeO.bind ?_ (fun _ => ?_)
theorem head_bytes.mono : ∀ a0 k, LeO (head_bytes.f k a0) (head_bytes.f (k + 1) a0) := by
 intro a0 k
 have ih0 := head_bytes.mono_l k
 unfold head_bytes.f
 repeat' first
   | (with_reducible exact ih0 _ _ _ _)
   | (with_reducible exact LeO.refl _)
   | (with_reducible exact LeO.none _)
   | (with_reducible refine LeO.ite ?_ ?_)
   | (with_reducible refine LeO.bind ?_ (fun _ => ?_))
   | exact ih0 _ _ _ _
   | exact LeO.none _
   | refine LeO.ite ?_ ?_
   | refine LeO.bind ?_ (fun _ => ?_)
set_option maxHeartbeats 8000000 in
set_option maxRecDepth 100000 in
theorem head_bytes.calls (k : Nat) (A0 : Option Addr) (c0 : Nat) (l0 : List Int) (r : ByteArray) (w : World) (hr0 : Kd.C (Kd.int .i64) w A0 l0.length l0) (hc0 : l0.length ≤ c0) (h : head_bytes.f k l0 = some r) :
  Calls Tryz.prog 31 #[.slice A0 l0.length c0] w fun e w' => e = .returned (.string r) ∧ Below w.heap.size w w' := by
 have HR0 := Aside0.mk hr0
 have HC0 := Aside0.mk hc0
 clear hr0 hc0
 have HB := as_ (Below.refl w.heap.size w)
 have H : (head_bytes.l0 k ([] : List Int) l0 (l0.length : Int) 0) = some r := h
 clear h
 have H' := Aside0.mk H
 clear H
 go_enter Tryz.func31, Tryz.ntmps31
 go_wp2
 go_loopg [3, 8] k (fun kq v3 v8 w' => ∃ (x3_1 : List Int) (x8_1 : Int), v8 = .int .i64 x8_1 ∧ Aside0 (head_bytes.l0 kq x3_1 l0 (l0.length : Int) x8_1 = some r) ∧ Aside0 (kq ≤ k) ∧ Aside0 (Kd.R (Kd.int .u8) 5 w' w.heap.size (fun _ => True) v3 x3_1) ∧ Aside0 (Below w.heap.size w w'))
 case atStart => exact ⟨(([] : List Int)), (0), (by first | rfl | (simp; done) | (simp [*]; done)), H', ⟨Nat.le_refl _⟩, ⟨by first | exact Kd.R_nil _ _ _ _ _ | exact Kd.N_nil _ _ _ _ _ | exact Kd.V_nil _ _ _ _ _ | exact Kd.Q_nil _ _ _ _ _ | exact Kd.S_nil _ _ _ _ _⟩, ⟨by repeat (first | (with_reducible first | exact HB.out | apply below_alloc | apply pw_below_drewN | apply below_drew1) | exact HB.out)⟩⟩
 case round =>
  clear H'
  obtain ⟨x3_1, x8_1, rfl, HA, HK1, HO_3, HB⟩ := hrel
  cases gk with
  | zero => exact absurd HA.out (by simp [head_bytes.l0])
  | succ k1 =>
   have H := HA.out
   clear HA
   simp only [head_bytes.l0] at H
   by_cases c2 : x8_1 < (l0.length : Int)
   rotate_left
   ·rw [if_neg c2] at H
    have c2b0 : decide (x8_1 < (l0.length : Int)) = false := decide_eq_false c2
    clear c2
    obtain rfl := Option.some.inj H
    have hcv7 := own_string (P := Tryz.prog) Tryz.underlying71 Tryz.underlying5 Tryz.underlying9 (Kd.own_of_R HO_3.out)
    go_wp2
    go_ret
    exact ⟨eW, by repeat (first | (with_reducible first | exact HB.out | apply below_alloc | apply pw_below_drewN | apply below_drew1) | exact HB.out)⟩
 
   rw [if_pos c2] at H
   have c2b0 : decide (x8_1 < (l0.length : Int)) = true := decide_eq_true c2
   clear c2
   by_cases c3 : 0 ≤ x8_1
   rotate_left
   ·rw [if_neg c3] at H
    exact absurd H (by simp)
   rw [if_pos c3] at H
   have c3b0 : decide (0 ≤ x8_1) = true := decide_eq_true c3
   clear c3
   by_cases c4 : x8_1 < (l0.length : Int)
   rotate_left
   ·rw [if_neg c4] at H
    exact absurd H (by simp)
   rw [if_pos c4] at H
   have c4b0 : decide (x8_1 < (l0.length : Int)) = true := decide_eq_true c4
   clear c4
   by_cases c5 : x3_1.length < 140737488355328
   rotate_left
   ·rw [if_neg c5] at H
    exact absurd H (by simp)
   rw [if_pos c5] at H
   have LMc5 := Aside0.mk c5
   clear c5
   obtain ⟨y130, hy130⟩ : ∃ y_ : List Int, y_ = (x3_1 ++ [(rd l0 x8_1) % 256]) := ⟨_, rfl⟩
   replace H : (head_bytes.l0 k1 y130 l0 (l0.length : Int) (wrap64 (x8_1 + 1))) = some r := by first | (rw [hy130]; with_reducible exact H) | (have H2_ := (Option.bind_some _ _).symm.trans H; rw [hy130]; with_reducible exact H2_) | (have H2_ := (Option.bind_some _ _).symm.trans H; with_reducible exact H2_) | with_reducible exact H | (rw [hy130]; exact H) | exact H
   have Ny130 := Aside0.mk hy130
   clear hy130
   have H' := Aside0.mk H
   clear H
   have p129 : 0 ≤ (x8_1 : Int) := of_decide_eq_true aM
   have q129 : x8_1 < (l0.length : Int) := of_decide_eq_true aM
   obtain ⟨ad129, e129, hx129_0⟩ := Kd.at_int HR0.out x8_1 p129 q129
   cases e129
   replace hx129_0 := (HB.out.cell (World.block_lt_of_cell? w _ hx129_0)).trans hx129_0
   replace p129 := eq_true p129
   replace q129 := eq_true q129
   go_wp2_with (first | ((with_reducible refine gate_builtin (b := .append) (xs := #[.tmp 12, .tmp 15]) rfl ?_); at_builtin; refine Kd.R_append (Kd.int .u8) (w0 := w) w.heap.size rfl (.tmp 12) (.tmp 15) 71 5 (.int .u8 0) 1 rfl Tryz.underlying71 info5 rfl (by decide) (by omega) u3 x3_1 ((rd l0 x8_1) % 256) [.int .u8 ((rd l0 x8_1) % 256)] (fun _ => True) (fun _ => False) rfl rfl ?aP (fun _ hk => hk.elim) ?aF ?aO ?aB ?aS ?aL ?_; (case aP => exact rfl); (case aB => exact bA); (case aF => exact (fun _ _ => trivial)); (case aO => exact (by (with_reducible repeat (first | apply Kd.R_alloc | apply Kd.R_drewN | apply Kd.R_drew)); exact HO_3.out)); (case aS => exact (below_size bA)); (case aL => have := LMc5.out; omega); intro v131 w6 ho hb hg hat; rw [← Ny130.out] at ho; have HO132 := as_ (ho); replace HB := as_ (hb); clear HO_3; clear ho hb hg hat))
   go_roundg k1
   case measure => have := HK1.out; omega
   case rel => exact ⟨(y130), (wrap64 (x8_1 + 1)), (by first | rfl | (simp; done) | (simp [*]; done)), H', ⟨by have := HK1.out; omega⟩, ⟨by (with_reducible repeat (first | apply Kd.R_alloc | apply Kd.R_drewN | apply Kd.R_drew)); exact HO132.out⟩, ⟨by repeat (first | (with_reducible first | exact HB.out | apply below_alloc | apply pw_below_drewN | apply below_drew1) | exact HB.out)⟩⟩
/-! ### word_Four: function 32, by hand -/
def word_Four.f (a0 : Int) : Option (ByteArray) := some (strOfNums ([a0 % 256, (a0 / 256) % 256, (a0 / 65536) % 256, (a0 / 16777216) % 256] : List Int))
theorem four_index (W : World) (g : Nat) (i : Int) (n : Nat) (h : (i = 0 ∧ n = 0) ∨ (i = 1 ∧ n = 1) ∨ (i = 2 ∧ n = 2) ∨ (i = 3 ∧ n = 3)) : (Instr.indexAt 88 (.pointer (some ⟨g, 0, none⟩)) (.int .i64 i)).run Tryz.prog W = .ok (.pointer (some ⟨g, n, none⟩)) W := by
 have hu : Tryz.prog.underlying 88 = some (.array (Tryz.prog.arrayLen 88) (Tryz.prog.elem 88)) := by kernel_rfl
 have hl : Tryz.prog.arrayLen 88 = 4 := by kernel_rfl
 have he : Tryz.prog.elem 88 = 5 := by kernel_rfl
 obtain ⟨i0, hi, hz, hz1, _⟩ := info_parts (show (Tryz.prog.info? 5).map (fun i => (i.zero, i.size, i.bytes)) = some (some (.int .u8 0), 1, 1) by kernel_rfl)
 rw [run_indexAt_array (h := hu), hl, he]
 rcases h with ⟨rfl, rfl⟩ | ⟨rfl, rfl⟩ | ⟨rfl, rfl⟩ | ⟨rfl, rfl⟩ <;> simp [sizeOf, typeInfo, hi, hz1, Result.andThen, Addr.add]
theorem four_slice (W : World) (g : Nat) : (Instr.sliceAt 88 (.pointer (some ⟨g, 0, none⟩)) none none none).run Tryz.prog W = .ok (.slice (some ⟨g, 0, none⟩) 4 4) W := by
 have hu : Tryz.prog.underlying 88 = some (.array (Tryz.prog.arrayLen 88) (Tryz.prog.elem 88)) := by kernel_rfl
 have hl : Tryz.prog.arrayLen 88 = 4 := by kernel_rfl
 have he : Tryz.prog.elem 88 = 5 := by kernel_rfl
 obtain ⟨i0, hi, hz, hz1, _⟩ := info_parts (show (Tryz.prog.info? 5).map (fun i => (i.zero, i.size, i.bytes)) = some (some (.int .u8 0), 1, 1) by kernel_rfl)
 rw [run_sliceAt_array_all (ht := hu), hl, he]
 simp [sizeOf, typeInfo, hi, hz1, Result.andThen, slicedAt, Addr.add]
theorem four_string (W : World) (g : Nat) (x0 x1 x2 x3 : Int) (h : W.heap[g]? = some (.cells #[.int .u8 x0, .int .u8 x1, .int .u8 x2, .int .u8 x3] 88 (0, 0))) : (convert 71 9 (.slice (some ⟨g, 0, none⟩) 4 4)).run Tryz.prog W = .ok (.string (strOfNums [x0, x1, x2, x3])) W := by
 refine string_of_reads Tryz.underlying71 Tryz.underlying5 Tryz.underlying9 ?_
 refine ⟨rfl, by omega, fun _ => ⟨⟨g, 0, none⟩, rfl, fun j hj => ?_⟩⟩
 have e : (⟨g, 0, none⟩ : Addr).add j = ⟨g, j, none⟩ := by simp [Addr.add] <;> omega
 rw [e, blk_cell h j]
 match j, hj with
 | 0, _ => rfl
 | 1, _ => rfl
 | 2, _ => rfl
 | 3, _ => rfl
set_option maxHeartbeats 4000000 in
set_option maxRecDepth 100000 in
theorem word_Four.calls (a0 : Int) (r : ByteArray) (w : World) (h : word_Four.f a0 = some r) :
  Calls Tryz.prog 32 #[.int .u32 a0] w fun e w' => e = .returned (.string r) ∧ Below w.heap.size w w' := by
 have H := as_ (Option.some.inj h)
 clear h
 have HB := as_ (Below.refl w.heap.size w)
 go_enter Tryz.func32, Tryz.ntmps32
 go_wp2_with (first | ((with_reducible refine gate_dst (N := 3) rfl ?_); refine box_event (by rfl) (N := 3) (by rfl) (cs := #[.int .u8 0, .int .u8 0, .int .u8 0, .int .u8 0]) (t := 88) gS ?_; intro gb hg w1 hbox hb; have BK := Aside0.mk hbox; have GE := gw hg bA; replace HB := as_ (below_step bA hb); clear hb hbox hg))
 go_loopg [5] 5 (fun kq v5 w' => ∃ x5 : Int, v5 = .int .i64 x5 ∧ Aside0 ((x5 = 0 ∧ kq = 5 ∧ w'.heap[gb]? = some (.cells #[.int .u8 0, .int .u8 0, .int .u8 0, .int .u8 0] 88 (0, 0))) ∨ (x5 = 1 ∧ kq = 4 ∧ w'.heap[gb]? = some (.cells #[.int .u8 (a0 % 256), .int .u8 0, .int .u8 0, .int .u8 0] 88 (0, 0))) ∨ (x5 = 2 ∧ kq = 3 ∧ w'.heap[gb]? = some (.cells #[.int .u8 (a0 % 256), .int .u8 (a0 / 256 % 256), .int .u8 0, .int .u8 0] 88 (0, 0))) ∨ (x5 = 3 ∧ kq = 2 ∧ w'.heap[gb]? = some (.cells #[.int .u8 (a0 % 256), .int .u8 (a0 / 256 % 256), .int .u8 (a0 / 65536 % 256), .int .u8 0] 88 (0, 0))) ∨ (x5 = 4 ∧ kq = 1 ∧ w'.heap[gb]? = some (.cells #[.int .u8 (a0 % 256), .int .u8 (a0 / 256 % 256), .int .u8 (a0 / 65536 % 256), .int .u8 (a0 / 16777216 % 256)] 88 (0, 0)))) ∧ Aside0 (Below w.heap.size w w'))
 case atStart => exact ⟨0, rfl, ⟨.inl ⟨rfl, rfl, BK.out⟩⟩, ⟨HB.out⟩⟩
 case round =>
  obtain ⟨x5, rfl, HX, HB1⟩ := hrel
  clear HB BK
  have HB := HB1
  clear HB1
  rcases HX.out with ⟨rfl, rfl, hb⟩ | ⟨rfl, rfl, hb⟩ | ⟨rfl, rfl, hb⟩ | ⟨rfl, rfl, hb⟩ | ⟨rfl, rfl, hb⟩
  ·have BK := Aside0.mk hb
   clear hb HX
   have hix : ∀ W : World, (Instr.indexAt 88 (.pointer (some ⟨gb, 0, none⟩)) (.int .i64 0)).run Tryz.prog W = .ok (.pointer (some ⟨gb, 0, none⟩)) W := fun W => four_index W gb _ _ (by omega)
   have hc : wr.cell? ⟨gb, 0, none⟩ = some (.int .u8 0) := (blk_cell BK.out 0).trans rfl
   have hf := blk_frozen BK.out 0
   go_wp2
   go_roundg 4
   case measure => omega
   case rel => exact ⟨1, rfl, ⟨.inr (.inl ⟨rfl, rfl, by first | exact blk_put BK.out 0 _ rfl | (rw [four_shr0] at *; exact blk_put BK.out 0 _ rfl)⟩)⟩, ⟨by repeat (first | exact HB.out | apply below_alloc | apply pw_below_drewN | apply below_drew1 | refine below_set ?_ GE.out)⟩⟩
  ·have BK := Aside0.mk hb
   clear hb HX
   have hix : ∀ W : World, (Instr.indexAt 88 (.pointer (some ⟨gb, 0, none⟩)) (.int .i64 1)).run Tryz.prog W = .ok (.pointer (some ⟨gb, 1, none⟩)) W := fun W => four_index W gb _ _ (by omega)
   have hc : wr.cell? ⟨gb, 1, none⟩ = some (.int .u8 0) := (blk_cell BK.out 1).trans rfl
   have hf := blk_frozen BK.out 1
   go_wp2
   go_roundg 3
   case measure => omega
   case rel => exact ⟨2, rfl, ⟨.inr (.inr (.inl ⟨rfl, rfl, by first | exact blk_put BK.out 1 _ rfl | (rw [four_shr1] at *; exact blk_put BK.out 1 _ rfl)⟩))⟩, ⟨by repeat (first | exact HB.out | apply below_alloc | apply pw_below_drewN | apply below_drew1 | refine below_set ?_ GE.out)⟩⟩
  ·have BK := Aside0.mk hb
   clear hb HX
   have hix : ∀ W : World, (Instr.indexAt 88 (.pointer (some ⟨gb, 0, none⟩)) (.int .i64 2)).run Tryz.prog W = .ok (.pointer (some ⟨gb, 2, none⟩)) W := fun W => four_index W gb _ _ (by omega)
   have hc : wr.cell? ⟨gb, 2, none⟩ = some (.int .u8 0) := (blk_cell BK.out 2).trans rfl
   have hf := blk_frozen BK.out 2
   go_wp2
   go_roundg 2
   case measure => omega
   case rel => exact ⟨3, rfl, ⟨.inr (.inr (.inr (.inl ⟨rfl, rfl, by first | exact blk_put BK.out 2 _ rfl | (rw [four_shr2] at *; exact blk_put BK.out 2 _ rfl)⟩)))⟩, ⟨by repeat (first | exact HB.out | apply below_alloc | apply pw_below_drewN | apply below_drew1 | refine below_set ?_ GE.out)⟩⟩
  ·have BK := Aside0.mk hb
   clear hb HX
   have hix : ∀ W : World, (Instr.indexAt 88 (.pointer (some ⟨gb, 0, none⟩)) (.int .i64 3)).run Tryz.prog W = .ok (.pointer (some ⟨gb, 3, none⟩)) W := fun W => four_index W gb _ _ (by omega)
   have hc : wr.cell? ⟨gb, 3, none⟩ = some (.int .u8 0) := (blk_cell BK.out 3).trans rfl
   have hf := blk_frozen BK.out 3
   go_wp2
   go_roundg 1
   case measure => omega
   case rel => exact ⟨4, rfl, ⟨.inr (.inr (.inr (.inr (⟨rfl, rfl, by first | exact blk_put BK.out 3 _ rfl | (rw [four_shr3] at *; exact blk_put BK.out 3 _ rfl)⟩))))⟩, ⟨by repeat (first | exact HB.out | apply below_alloc | apply pw_below_drewN | apply below_drew1 | refine below_set ?_ GE.out)⟩⟩
  ·have BK := Aside0.mk hb
   clear hb HX
   have hsl := fun W => four_slice W gb
   have hst := four_string wr gb _ _ _ _ BK.out
   go_wp2
   go_ret
   exact ⟨by rw [← H.out]; rfl, by repeat (first | exact HB.out | apply below_alloc | apply pw_below_drewN | apply below_drew1 | refine below_set ?_ GE.out)⟩


/-! ### bits_Mul32: function 68 -/
def bits_Mul32.f (a0 : Int) (a1 : Int) : Option (Int × Int) := some (((IntKind.u64.wrap ((IntKind.u64.wrap (a0)) * (IntKind.u64.wrap (a1)))) / 4294967296) % 4294967296, (IntKind.u64.wrap ((IntKind.u64.wrap (a0)) * (IntKind.u64.wrap (a1)))) % 4294967296)
set_option maxHeartbeats 8000000 in
set_option maxRecDepth 100000 in
theorem bits_Mul32.calls (a0 : Int) (a1 : Int) (r1 : Int) (r2 : Int) (w : World) (h : bits_Mul32.f a0 a1 = some (r1, r2)) :
  Calls Tryz.prog 68 #[.int .u32 a0, .int .u32 a1] w fun e w' => e = .returned (.tuple #[.int .u32 r1, .int .u32 r2]) ∧ Drawn0 w w' := by
 have H : (some (((IntKind.u64.wrap ((IntKind.u64.wrap (a0)) * (IntKind.u64.wrap (a1)))) / 4294967296) % 4294967296, (IntKind.u64.wrap ((IntKind.u64.wrap (a0)) * (IntKind.u64.wrap (a1)))) % 4294967296)) = some (r1, r2) := h
 clear h
 simp only [Option.some.injEq, Prod.mk.injEq] at H
 obtain ⟨rfl, rfl⟩ := H
 go_enter Tryz.func68, Tryz.ntmps68
 go_wp2
 go_ret2
 exact ⟨by first | rfl | (simp; done) | (simp [*]; done), by repeat (first | exact Drawn0.refl _ | apply Drawn0.step)⟩

/-! ### bits_Mul64: function 69 -/
def bits_Mul64.f (a0 : Int) (a1 : Int) : Option (Int × Int) := some (IntKind.u64.wrap ((IntKind.u64.wrap ((IntKind.u64.wrap ((a0 / 4294967296) * (a1 / 4294967296))) + ((IntKind.u64.wrap ((IntKind.u64.wrap ((a0 / 4294967296) * (Go.bits .and .u64 a1 4294967295))) + ((IntKind.u64.wrap ((Go.bits .and .u64 a0 4294967295) * (Go.bits .and .u64 a1 4294967295))) / 4294967296))) / 4294967296))) + ((IntKind.u64.wrap ((Go.bits .and .u64 (IntKind.u64.wrap ((IntKind.u64.wrap ((a0 / 4294967296) * (Go.bits .and .u64 a1 4294967295))) + ((IntKind.u64.wrap ((Go.bits .and .u64 a0 4294967295) * (Go.bits .and .u64 a1 4294967295))) / 4294967296))) 4294967295) + (IntKind.u64.wrap ((Go.bits .and .u64 a0 4294967295) * (a1 / 4294967296))))) / 4294967296)), IntKind.u64.wrap (a0 * a1))
set_option maxHeartbeats 8000000 in
set_option maxRecDepth 100000 in
theorem bits_Mul64.calls (a0 : Int) (a1 : Int) (r1 : Int) (r2 : Int) (w : World) (h : bits_Mul64.f a0 a1 = some (r1, r2)) :
  Calls Tryz.prog 69 #[.int .u64 a0, .int .u64 a1] w fun e w' => e = .returned (.tuple #[.int .u64 r1, .int .u64 r2]) ∧ Drawn0 w w' := by
 have H : (some (IntKind.u64.wrap ((IntKind.u64.wrap ((IntKind.u64.wrap ((a0 / 4294967296) * (a1 / 4294967296))) + ((IntKind.u64.wrap ((IntKind.u64.wrap ((a0 / 4294967296) * (Go.bits .and .u64 a1 4294967295))) + ((IntKind.u64.wrap ((Go.bits .and .u64 a0 4294967295) * (Go.bits .and .u64 a1 4294967295))) / 4294967296))) / 4294967296))) + ((IntKind.u64.wrap ((Go.bits .and .u64 (IntKind.u64.wrap ((IntKind.u64.wrap ((a0 / 4294967296) * (Go.bits .and .u64 a1 4294967295))) + ((IntKind.u64.wrap ((Go.bits .and .u64 a0 4294967295) * (Go.bits .and .u64 a1 4294967295))) / 4294967296))) 4294967295) + (IntKind.u64.wrap ((Go.bits .and .u64 a0 4294967295) * (a1 / 4294967296))))) / 4294967296)), IntKind.u64.wrap (a0 * a1))) = some (r1, r2) := h
 clear h
 simp only [Option.some.injEq, Prod.mk.injEq] at H
 obtain ⟨rfl, rfl⟩ := H
 go_enter Tryz.func69, Tryz.ntmps69
 go_wp2
 go_ret2
 exact ⟨by first | rfl | (simp; done) | (simp [*]; done), by repeat (first | exact Drawn0.refl _ | apply Drawn0.step)⟩

/-! ### bits_Mul: function 51 -/
def bits_Mul.f (a0 : Int) (a1 : Int) : Option (Int × Int) := (bits_Mul64.f a0 a1).bind fun bt133 => (some (bt133.1, bt133.2))
set_option maxHeartbeats 8000000 in
set_option maxRecDepth 100000 in
theorem bits_Mul.calls (a0 : Int) (a1 : Int) (r1 : Int) (r2 : Int) (w : World) (h : bits_Mul.f a0 a1 = some (r1, r2)) :
  Calls Tryz.prog 51 #[.int .u64 a0, .int .u64 a1] w fun e w' => e = .returned (.tuple #[.int .u64 r1, .int .u64 r2]) ∧ Drawn0 w w' := by
 have H : ((bits_Mul64.f a0 a1).bind fun bt133 => (some (bt133.1, bt133.2))) = some (r1, r2) := h
 clear h
 replace H := bM H
 obtain ⟨⟨t133, t134⟩, A30, H⟩ := H
 replace H : (some (t133, t134)) = some (r1, r2) := H
 have A3 := Aside0.mk A30
 clear A30
 simp only [Option.some.injEq, Prod.mk.injEq] at H
 obtain ⟨rfl, rfl⟩ := H
 go_enter Tryz.func51, Tryz.ntmps51
 go_wp2_with (first | ((with_reducible refine gate_callee (f := 69) rfl ?_); refine goesL_ (some 25) rfl rfl Tryz.func69 (by kernel_rfl) rfl #[.int .u64 a0, .int .u64 a1] rfl aO ?_; (with_reducible refine (bits_Mul64.calls a0 a1 t133 t134 _ A3.out).mono ?_); rintro e w' ⟨rfl, ⟨nd, rfl⟩⟩; refine ⟨_, rfl, ?_⟩))
 go_ret2
 exact ⟨by first | rfl | (simp; done) | (simp [*]; done), by repeat (first | exact Drawn0.refl _ | apply Drawn0.step)⟩

/-! ### stringslite_HasPrefix: function 70 -/
def stringslite_HasPrefix.f (a0 : ByteArray) (a1 : ByteArray) : Option (Bool) := if (a0.size : Int) ≥ (a1.size : Int) then (if 0 ≤ (a1.size : Int) then (if (a1.size : Int) ≤ (a0.size : Int) then (some ((a0.extract 0 a1.size).toList == a1.toList)) else (none)) else (none)) else (some false)
set_option maxHeartbeats 8000000 in
set_option maxRecDepth 100000 in
theorem stringslite_HasPrefix.calls (a0 : ByteArray) (a1 : ByteArray) (r : Bool) (w : World) (h : stringslite_HasPrefix.f a0 a1 = some r) :
  Calls Tryz.prog 70 #[.string a0, .string a1] w fun e w' => e = .returned (.bool r) ∧ Drawn0 w w' := by
 have H : (if (a0.size : Int) ≥ (a1.size : Int) then (if 0 ≤ (a1.size : Int) then (if (a1.size : Int) ≤ (a0.size : Int) then (some ((a0.extract 0 a1.size).toList == a1.toList)) else (none)) else (none)) else (some false)) = some r := h
 clear h
 by_cases c3 : (a0.size : Int) ≥ (a1.size : Int)
 rotate_left
 ·rw [if_neg c3] at H
  have c3b0 : decide ((a1.size : Int) ≤ (a0.size : Int)) = false := decide_eq_false c3
  have c3b1 : decide (a1.size ≤ a0.size) = false := decide_eq_false (fun h => c3 (Int.ofNat_le.mpr h))
  clear c3
  obtain rfl := Option.some.inj H
  go_enter Tryz.func70, Tryz.ntmps70
  go_wp2
  go_ret
  exact ⟨by first | rfl | (simp; done) | (simp [*]; done), by repeat (first | exact Drawn0.refl _ | apply Drawn0.step)⟩
 
 rw [if_pos c3] at H
 have c3b0 : decide ((a1.size : Int) ≤ (a0.size : Int)) = true := decide_eq_true c3
 have c3b1 : decide (a1.size ≤ a0.size) = true := decide_eq_true (Int.ofNat_le.mp c3)
 clear c3
 by_cases c4 : 0 ≤ (a1.size : Int)
 rotate_left
 ·rw [if_neg c4] at H
  exact absurd H (by simp)
 rw [if_pos c4] at H
 have c4b0 := eq_true c4
 have c4b1 : decide (0 ≤ (a1.size : Int)) = true := decide_eq_true c4
 clear c4
 by_cases c5 : (a1.size : Int) ≤ (a0.size : Int)
 rotate_left
 ·rw [if_neg c5] at H
  exact absurd H (by simp)
 rw [if_pos c5] at H
 have c5b0 := eq_true c5
 have c5b1 : decide ((a1.size : Int) ≤ (a0.size : Int)) = true := decide_eq_true c5
 clear c5
 obtain ⟨js6, hjs6⟩ : ∃ j_ : ByteArray, (a0.extract 0 a1.size) = j_ := ⟨_, rfl⟩
 replace H : (some ((js6).toList == a1.toList)) = some r := by first | (rw [hjs6] at H; exact H) | (simp only [hjs6] at H ⊢; exact H)
 obtain rfl := Option.some.inj H
 go_enter Tryz.func70, Tryz.ntmps70
 go_wp2
 go_ret
 exact ⟨by first | rfl | (simp; done) | (simp only [← hjs6] <;> (first | rfl | simp)) | (simp [*]; done), by repeat (first | exact Drawn0.refl _ | apply Drawn0.step)⟩
/-! ### strings_HasPrefix: function 52 -/
def strings_HasPrefix.f (a0 : ByteArray) (a1 : ByteArray) : Option (Bool) := (stringslite_HasPrefix.f a0 a1).bind fun t135 => (some t135)
set_option maxHeartbeats 8000000 in
set_option maxRecDepth 100000 in
theorem strings_HasPrefix.calls (a0 : ByteArray) (a1 : ByteArray) (r : Bool) (w : World) (h : strings_HasPrefix.f a0 a1 = some r) :
  Calls Tryz.prog 52 #[.string a0, .string a1] w fun e w' => e = .returned (.bool r) ∧ Drawn0 w w' := by
 have H : ((stringslite_HasPrefix.f a0 a1).bind fun t135 => (some t135)) = some r := h
 clear h
 replace H := bM H
 obtain ⟨t135, A30, H⟩ := H
 replace H : (some t135) = some r := H
 have A3 := Aside0.mk A30
 clear A30
 obtain rfl := Option.some.inj H
 go_enter Tryz.func52, Tryz.ntmps52
 go_wp2_with (first | ((with_reducible refine gate_callee (f := 70) rfl ?_); refine goesL_ (some 7) rfl rfl Tryz.func70 (by kernel_rfl) rfl #[.string a0, .string a1] rfl aO ?_; (with_reducible refine (stringslite_HasPrefix.calls a0 a1 t135 _ A3.out).mono ?_); rintro e w' ⟨rfl, ⟨nd, rfl⟩⟩; refine ⟨_, rfl, ?_⟩))
 go_ret
 exact ⟨by first | rfl | (simp; done) | (simp [*]; done), by repeat (first | exact Drawn0.refl _ | apply Drawn0.step)⟩

-- NOT PRINTED: function 78 (abi_NoEscape)

-- NOT PRINTED: function 71 (strings_Builder_copyCheck)

-- NOT PRINTED: function 79 (bytealg_MakeNoZero)

-- NOT PRINTED: function 72 (strings_Builder_grow)

-- NOT PRINTED: function 53 (strings_Builder_Grow)

-- NOT PRINTED: function 54 (strings_Builder_WriteString)

-- NOT PRINTED: function 55 (strings_Builder_Len)

-- NOT PRINTED: function 56 (strings_Builder_String)

/-! ### strings_Repeat: function 33, by hand -/
def strings_Repeat.f (a0 : ByteArray) (a1 : Int) : Option (ByteArray) := if 0 ≤ a1 then (if a1 ≤ 9223372036854775807 then (if a0.size * a1.toNat ≤ 140737488355328 then (some (⟨(Lib.repeatL a0.data.toList a1.toNat).toArray⟩ : ByteArray)) else (none)) else (none)) else (none)
theorem strings_Repeat.calls (a0 : ByteArray) (a1 : Int) (r : ByteArray) (w : World) (h : strings_Repeat.f a0 a1 = some r) :
  Calls Tryz.prog 33 #[.string a0, .int .i64 a1] w fun e w' => e = .returned (.string r) ∧ Below w.heap.size w w' := by
 unfold strings_Repeat.f at h
 by_cases h0 : 0 ≤ a1
 rotate_left
 ·rw [if_neg h0] at h
  cases h
 
 
 by_cases h1 : a1 ≤ 9223372036854775807
 rotate_left
 ·rw [if_pos h0, if_neg h1] at h
  cases h
 by_cases h2 : a0.size * a1.toNat ≤ 140737488355328
 rotate_left
 ·rw [if_pos h0, if_pos h1, if_neg h2] at h
  cases h
 rw [if_pos h0, if_pos h1, if_pos h2] at h
 injection h with h
 subst h
 obtain ⟨n, rfl⟩ := Int.eq_ofNat_of_zero_le h0
 rw [Int.toNat_natCast] at h2 ⊢
 exact Tryz.strings_Repeat a0 n w (by omega) h2
/-! ### sum_step: function 80, by hand -/
def sum_shift (r : Int) : Int := if Go.bits .and .u32 r 1 = 1 then Go.bits .xor .u32 (r / 2) 2197175160 else r / 2
def sum_stepN : Nat → Int → Int
 | 0, r => r
 | n + 1, r => sum_stepN n (sum_shift r)
def sum_step.f (a0 : Int) : Option (Int) := some (sum_stepN 8 a0)
theorem sum_shift.calls (B : Nat) (r : Int) (w : World) (hb : w.heap[B]? = some (.cells #[.int .u32 r] 67 (0, 0))) :
  Calls Tryz.prog 85 #[.pointer (some ⟨B, 0, none⟩)] w fun e w' => (∃ v, e = .returned v) ∧ w'.heap[B]? = some (.cells #[.int .u32 (sum_shift r)] 67 (0, 0)) ∧ Below B w w' := by
 have hc : w.cell? ⟨B, 0, none⟩ = some (.int .u32 r) := (blk_cell hb 0).trans rfl
 have hf := blk_frozen hb 0
 have BK := Aside0.mk hb
 clear hb
 by_cases c : Go.bits .and .u32 r 1 = 1
 rotate_left
 ·have c0 : (Go.bits .and .u32 r 1 == 1) = false := beq_eq_false_iff_ne.mpr c
  have E : Aside0 (sum_shift r = r / 2) := ⟨if_neg c⟩
  clear c
  go_enter Tryz.func85, Tryz.ntmps85
  go_wp2
  go_end0
  exact ⟨⟨_, rfl⟩, by rw [E.out]; exact blk_put BK.out 0 _ rfl, (Below.refl B w).setCell (p := ⟨B, 0, none⟩) (Nat.le_refl _) _⟩
 have c0 : (Go.bits .and .u32 r 1 == 1) = true := beq_iff_eq.mpr c
 have E : Aside0 (sum_shift r = Go.bits .xor .u32 (r / 2) 2197175160) := ⟨if_pos c⟩
 clear c
 go_enter Tryz.func85, Tryz.ntmps85
 go_wp2
 go_end0
 exact ⟨⟨_, rfl⟩, by rw [E.out]; exact blk_put (blk_put BK.out 0 _ rfl) 0 _ rfl, ((Below.refl B w).setCell (p := ⟨B, 0, none⟩) (Nat.le_refl _) _).setCell (p := ⟨B, 0, none⟩) (Nat.le_refl _) _⟩
theorem sum_step.calls (a0 : Int) (r : Int) (w : World) (h : sum_step.f a0 = some r) :
  Calls Tryz.prog 80 #[.int .u32 a0] w fun e w' => e = .returned (.int .u32 r) ∧ Below w.heap.size w w' := by
 obtain rfl := Option.some.inj h
 clear h
 have HB := as_ (Below.refl w.heap.size w)
 go_enter Tryz.func80, Tryz.ntmps80
 go_wp2_with (first | ((with_reducible refine gate_dst (N := 1) rfl ?_); refine box_event (by rfl) (N := 1) (by rfl) (cs := #[.int .u32 a0]) (t := 67) gS ?_; intro gb hg w1 hbox hb; have BK := Aside0.mk hbox; have GE := gw hg bA; replace HB := as_ (below_step bA hb); clear hb hbox hg))
 go_loopg [5] 9 (fun kq v5 w' => ∃ (j : Nat) (x : Int), v5 = .int .i64 (j : Int) ∧ Aside0 (j ≤ 8 ∧ kq + j = 9 ∧ sum_stepN (8 - j) x = sum_stepN 8 a0) ∧ Aside0 (w'.heap[gb]? = some (.cells #[.int .u32 x] 67 (0, 0))) ∧ Aside0 (Below w.heap.size w w'))
 case atStart => exact ⟨0, a0, rfl, ⟨⟨by omega, rfl, rfl⟩⟩, BK, HB⟩
 case round =>
  clear HB BK
  obtain ⟨j, x, rfl, HX, BK, HB⟩ := hrel
  by_cases c : j < 8
  rotate_left
  ·have c0 : ¬ (j : Int) < 8 := by omega
   have c1 : decide ((j : Int) < 8) = false := decide_eq_false c0
   clear c0
   have e8 : j = 8 := by have := HX.out; omega
   have hc : wr.cell? ⟨gb, 0, none⟩ = some (.int .u32 x) := (blk_cell BK.out 0).trans rfl
   go_wp2
   go_ret
   refine ⟨?_, by repeat (first | exact HB.out | apply below_alloc | apply pw_below_drewN | apply below_drew1)⟩
   have := HX.out.2.2
   rw [e8] at this
   rw [← this]
   rfl
 
 
  have c0 : (j : Int) < 8 := by omega
  have c1 : decide ((j : Int) < 8) = true := decide_eq_true c0
  clear c0
  go_wp2_with fail
  refine (sum_shift.calls gb x _ (by exact BK.out)).mono ?_
  rintro e w2 ⟨⟨v, rfl⟩, hk, hb⟩
  have n0_ := as_ (HB.out.trans (hb.mono GE.out) : Below w.heap.size w w2)
  have n1_ := Aside0.mk hk
  clear HB BK hb hk
  have HB := n0_
  have BK := n1_
  clear n0_ n1_
  go_wp2
  go_roundg (8 - j)
  case measure => have := HX.out; omega
  case rel =>
   refine ⟨j + 1, sum_shift x, ?_, ⟨by have := HX.out; refine ⟨by omega, by omega, ?_⟩; rw [← this.2.2, show 8 - j = (8 - (j + 1)) + 1 by omega]; rfl⟩, BK, HB⟩
   first | rfl | (simp; done)
-- NOT PRINTED: function 73 (sum_table)

end Go.Proofs.YtggfnlnonigkiaaGreatDoor.P
