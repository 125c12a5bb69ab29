/- What is proved here: for functions of the Go text, a Lean function each, and that the call comes to just what it answers. Conditions: as each contract names them. Written by wip/tools/myprint.py, a driver of the print of the kit. -/
import Derived.Test.YtafebmhmcdnhkaaGreatP0
import Derived.Test.YtafebmhmcdnhkaaGreatP3
import Derived.Test.YtafebmhmcdnhkaaGreatP6
import Derived.Test.YtafebmhmcdnhkaaGreatP10
import Derived.Test.YtafebmhmcdnhkaaGreatP11
import Derived.Test.YtafebmhmcdnhkaaGreatWAbbr
namespace Go.Proofs.YtafebmhmcdnhkaaGreat.P
open Go.RowKit Go.Proofs.YtafebmhmcdnhkaaGreatW.PrintWords Go.Proofs.YtafebmhmcdnhkaaGreatW.PrintLast Go.Proofs.YtafebmhmcdnhkaaGreatW.PrintMore Go.Proofs.YtafebmhmcdnhkaaGreatW.Abbr
-- PACKED
attribute [local go_sem] max2_int min2_int max_two min_two max_three min_three max_four min_four Go.Proofs.YtafebmhmcdnhkaaGreatLaws.str_leq Go.Proofs.YtafebmhmcdnhkaaGreatLaws.str_gtr Go.Proofs.YtafebmhmcdnhkaaGreatLaws.str_geq Go.Proofs.YtafebmhmcdnhkaaGreatLaws.max2_str Go.Proofs.YtafebmhmcdnhkaaGreatLaws.min2_str   -- for this text's walks alone
set_option linter.unusedVariables false
set_option linter.unusedSimpArgs false

/-! ### withylaw11_fixed: function 19 -/
def withylaw11_fixed.j0 : Nat → ByteArray → Int → Bool → Int → Int → Int → ByteArray → List Int → List ByteArray → Option (Bool)
 | 0, _, _, _, _, _, _, _, _, _ => none
 | k + 1, x2, x5, x46, x357000, x357001, x357002, x357003, x357004, x357005 => if x46 = true then (none) else ((withylaw11_two.f).bind fun bt361 => ((inner_Encode.f k bt361.1 bt361.2.1 2 bt361.2.2.2.1 bt361.2.2.2.2.1 bt361.2.2.2.2.2 128).bind fun bt372 => ((inner_Encode.f k bt361.1 bt361.2.1 2 (⟨#[110]⟩ : ByteArray) bt361.2.2.2.2.1 bt361.2.2.2.2.2 128).bind fun bt374 => ((inner_Decode.f k x2).bind fun bt376 => ((inner_Decode.f k bt374.1).bind fun bt388 => ((withyref01_Repeat.f k 0 128).bind fun t400 => ((inner_Decode.f k t400).bind fun bt401 => ((inner_Ends.f x357000 x357001 x357002 x357003 x357004 x357005 (⟨#[99]⟩ : ByteArray) 0).bind fun bt413 => ((inner_Ends.f x357000 x357001 x357002 x357003 x357004 x357005 (⟨#[99]⟩ : ByteArray) 1).bind fun bt416 => ((inner_Ends.f bt361.1 bt361.2.1 2 (⟨#[110]⟩ : ByteArray) bt361.2.2.2.2.1 bt361.2.2.2.2.2 (⟨#[99]⟩ : ByteArray) 1).bind fun bt419 => ((inner_Ends.f bt361.1 bt361.2.1 2 (⟨#[110]⟩ : ByteArray) bt361.2.2.2.2.1 bt361.2.2.2.2.2 (⟨#[99]⟩ : ByteArray) 2).bind fun bt422 => (if 0 < (x2.size : Int) then (if (bt x2 0) = 3 then (if 1 < (x2.size : Int) then (if (bt x2 1) = 1 then (if 16 ≤ 30 then (if 30 ≤ (x2.size : Int) then (if (x2.extract 16 30).toList = ([1, 109, 0, 4, 0, 0, 0, 0, 5, 0, 0, 0, 0, 0] : List UInt8) then (if x5 = 4 then (if bt372.2 = 3 then (if bt374.2 = 0 then ((withylaw11_Ref.f bt376.1 bt376.2.1 bt376.2.2.1 bt376.2.2.2.1 bt376.2.2.2.2.1 bt376.2.2.2.2.2.1).bind fun bt425 => ((withylaw11_Ref.f x357000 x357001 x357002 x357003 x357004 x357005).bind fun bt435 => ((withyref11_Same.f k bt425.1 bt425.2.1 bt425.2.2.1 bt425.2.2.2.1 bt425.2.2.2.2.1 bt425.2.2.2.2.2 bt435.1 bt435.2.1 bt435.2.2.1 bt435.2.2.2.1 bt435.2.2.2.2.1 bt435.2.2.2.2.2).bind fun t445 => (if t445 = true then (if bt376.2.2.2.2.2.2 = 0 then ((withylaw11_Ref.f bt388.1 bt388.2.1 bt388.2.2.1 bt388.2.2.2.1 bt388.2.2.2.2.1 bt388.2.2.2.2.2.1).bind fun bt446 => ((withylaw11_Ref.f bt361.1 bt361.2.1 2 (⟨#[110]⟩ : ByteArray) bt361.2.2.2.2.1 bt361.2.2.2.2.2).bind fun bt456 => ((withyref11_Same.f k bt446.1 bt446.2.1 bt446.2.2.1 bt446.2.2.2.1 bt446.2.2.2.2.1 bt446.2.2.2.2.2 bt456.1 bt456.2.1 bt456.2.2.1 bt456.2.2.2.1 bt456.2.2.2.2.1 bt456.2.2.2.2.2).bind fun t466 => (if t466 = true then (if bt388.2.2.2.2.2.2 = 0 then (if bt401.2.2.2.2.2.2 = 3 then ((inner_Route.f k x357000 x357001 x357002 x357003 x357004 x357005 (⟨#[97]⟩ : ByteArray)).bind fun t467 => (if t467 = 0 then ((inner_Route.f k x357000 x357001 x357002 x357003 x357004 x357005 (⟨#[109]⟩ : ByteArray)).bind fun t468 => (if t468 = 1 then ((inner_Route.f k x357000 x357001 x357002 x357003 x357004 x357005 (⟨#[108, 255]⟩ : ByteArray)).bind fun t469 => (if t469 = 0 then (if bt413.1.toList = ([99] : List UInt8) then (if bt413.2.1.toList = ([109] : List UInt8) then (if bt413.2.2 = true then (if bt416.1.toList = ([109] : List UInt8) then (if bt416.2.1.toList = ([] : List UInt8) then (if bt416.2.2 = true then (none) else (if bt419.1.toList = ([109] : List UInt8) then (if bt419.2.1.toList = ([110] : List UInt8) then (if bt419.2.2 = true then (if bt422.2.2 = true then (none) else ((inner_May.f k x357000 x357001 x357002 x357003 x357004 x357005 128).bind fun t470 => (if t470 = true then ((inner_May.f k 0 0 0 (⟨#[]⟩ : ByteArray) ([] : List Int) ([] : List ByteArray) 128).bind fun t471 => (if t471 = true then (none) else ((inner_Same.f k x357000 x357001 x357002 x357003 x357004 x357005 x357000 x357001 x357002 x357003 x357004 x357005).bind fun t472 => (if t472 = true then ((inner_Same.f k x357000 x357001 x357002 x357003 x357004 x357005 bt361.1 bt361.2.1 2 (⟨#[110]⟩ : ByteArray) bt361.2.2.2.2.1 bt361.2.2.2.2.2).bind fun t473 => (if t473 = true then (none) else ((inner_Size.f k x357000 x357001 x357002 x357003 x357004 x357005).bind fun t474 => (some (t474 == 19))))) else (none))))) else (none)))) else (none)) else (none)) else (none))) else (none)) else (none)) else (none)) else (none)) else (none)) else (none))) else (none))) else (none))) else (none)) else (none)) else (none))))) else (none)) else (none))))) else (none)) else (none)) else (none)) else (none)) else (none)) else (none)) else (none)) else (none)) else (none)) else (none)))))))))))))
def withylaw11_fixed.f (k : Nat)  : Option (Bool) := (withylaw11_two.f).bind fun bt346 => ((inner_Encode.f k bt346.1 bt346.2.1 bt346.2.2.1 bt346.2.2.2.1 bt346.2.2.2.2.1 bt346.2.2.2.2.2 128).bind fun bt357 => ((inner_Encode.f k bt346.1 bt346.2.1 bt346.2.2.1 bt346.2.2.2.1 bt346.2.2.2.2.1 bt346.2.2.2.2.2 100).bind fun bt359 => (if bt357.2 = 0 then (withylaw11_fixed.j0 k bt357.1 bt359.2 ((bt357.1.size : Int) != 128) bt346.1 bt346.2.1 bt346.2.2.1 bt346.2.2.2.1 bt346.2.2.2.2.1 bt346.2.2.2.2.2) else (withylaw11_fixed.j0 k bt357.1 bt359.2 true bt346.1 bt346.2.1 bt346.2.2.1 bt346.2.2.2.1 bt346.2.2.2.2.1 bt346.2.2.2.2.2))))
theorem withylaw11_fixed.mono_l : ∀ k, (∀ y0 y1 y2 y3 y4 y5 y6 y7 y8, LeO (withylaw11_fixed.j0 k y0 y1 y2 y3 y4 y5 y6 y7 y8) (withylaw11_fixed.j0 (k + 1) y0 y1 y2 y3 y4 y5 y6 y7 y8))
 | 0 => fun _ _ _ _ _ _ _ _ _ r h => by simp [withylaw11_fixed.j0] at h
 | k + 1 => by
  have ih0 := withylaw11_fixed.mono_l k
  ·intro y0 y1 y2 y3 y4 y5 y6 y7 y8
   unfold withylaw11_fixed.j0
   repeat' first
   | (with_reducible exact ih0 _ _ _ _ _ _ _ _ _)
   | (with_reducible exact inner_Decode.mono _ _)
   | (with_reducible exact inner_Encode.mono _ _ _ _ _ _ _ _)
   | (with_reducible exact inner_May.mono _ _ _ _ _ _ _ _)
   | (with_reducible exact inner_Route.mono _ _ _ _ _ _ _ _)
   | (with_reducible exact inner_Same.mono _ _ _ _ _ _ _ _ _ _ _ _ _)
   | (with_reducible exact inner_Size.mono _ _ _ _ _ _ _)
   | (with_reducible exact withyref01_Repeat.mono _ _ _)
   | (with_reducible exact withyref11_Same.mono _ _ _ _ _ _ _ _ _ _ _ _ _)
   | (with_reducible exact LeO.refl _)
   | (with_reducible exact LeO.none _)
   | (with_reducible refine LeO.ite ?_ ?_)
   | (with_reducible refine LeO.bind ?_ (fun _ => ?_))
   | exact ih0 _ _ _ _ _ _ _ _ _
   | exact inner_Decode.mono _ _
   | exact inner_Encode.mono _ _ _ _ _ _ _ _
   | exact inner_May.mono _ _ _ _ _ _ _ _
   | exact inner_Route.mono _ _ _ _ _ _ _ _
   | exact inner_Same.mono _ _ _ _ _ _ _ _ _ _ _ _ _
   | exact inner_Size.mono _ _ _ _ _ _ _
   | exact withyref01_Repeat.mono _ _ _
   | exact withyref11_Same.mono _ _ _ _ _ _ _ _ _ _ _ _ _
   | exact LeO.none _
   | refine LeO.ite ?_ ?_
   | refine LeO.bind ?_ (fun _ => ?_)
theorem withylaw11_fixed.mono : ∀ k, LeO (withylaw11_fixed.f k ) (withylaw11_fixed.f (k + 1) ) := by
 intro  k
 have ih0 := withylaw11_fixed.mono_l k
 unfold withylaw11_fixed.f
 repeat' first
   | (with_reducible exact ih0 _ _ _ _ _ _ _ _ _)
   | (with_reducible exact inner_Decode.mono _ _)
   | (with_reducible exact inner_Encode.mono _ _ _ _ _ _ _ _)
   | (with_reducible exact inner_May.mono _ _ _ _ _ _ _ _)
   | (with_reducible exact inner_Route.mono _ _ _ _ _ _ _ _)
   | (with_reducible exact inner_Same.mono _ _ _ _ _ _ _ _ _ _ _ _ _)
   | (with_reducible exact inner_Size.mono _ _ _ _ _ _ _)
   | (with_reducible exact withyref01_Repeat.mono _ _ _)
   | (with_reducible exact withyref11_Same.mono _ _ _ _ _ _ _ _ _ _ _ _ _)
   | (with_reducible exact LeO.refl _)
   | (with_reducible exact LeO.none _)
   | (with_reducible refine LeO.ite ?_ ?_)
   | (with_reducible refine LeO.bind ?_ (fun _ => ?_))
   | exact ih0 _ _ _ _ _ _ _ _ _
   | exact inner_Decode.mono _ _
   | exact inner_Encode.mono _ _ _ _ _ _ _ _
   | exact inner_May.mono _ _ _ _ _ _ _ _
   | exact inner_Route.mono _ _ _ _ _ _ _ _
   | exact inner_Same.mono _ _ _ _ _ _ _ _ _ _ _ _ _
   | exact inner_Size.mono _ _ _ _ _ _ _
   | exact withyref01_Repeat.mono _ _ _
   | exact withyref11_Same.mono _ _ _ _ _ _ _ _ _ _ _ _ _
   | exact LeO.none _
   | refine LeO.ite ?_ ?_
   | refine LeO.bind ?_ (fun _ => ?_)
def withylaw11_fixed.T18 : Bool × List (List Nat × List Nat) := (true, [([], []), ([0], [0]), ([1], [1]), ([2], [2]), ([3], [3]), ([4, 3], [3, 4]), ([5, 3], [3, 5]), ([3, 6], [3, 6]), ([7, 3], [7]), ([8], [8]), ([9, 8], [8, 9]), ([10, 8], [8, 10]), ([8, 11], [8, 11]), ([12, 8], [12]), ([13], [13]), ([14, 13], [13, 14]), ([13, 15], [13, 15]), ([16, 13], [16]), ([17], [17]), ([18, 17], [17, 18]), ([17, 19], [17, 19]), ([20, 17], [20]), ([21], [21]), ([22, 21], [21, 22]), ([21, 23], [21, 23]), ([24, 21], [24]), ([25], [25]), ([26, 25, 25], [25, 26]), ([25], [25]), ([28, 27, 25], [25, 28]), ([27, 29, 29, 25], [25, 27, 29]), ([25, 30], [25, 30]), ([31, 30], [31]), ([32], [32]), ([33, 32], [32, 33]), ([32, 34], [32, 34]), ([35, 32], [35]), ([36], [36]), ([37, 36, 36], [36, 37]), ([36], [36]), ([39, 38, 36], [36, 39]), ([38, 40, 40, 36], [36, 38, 40]), ([36, 41], [36, 41]), ([42, 41], [42]), ([43], [43]), ([44, 43], [43, 44]), ([43, 45], [43, 45]), ([46, 43], [46]), ([47], [47]), ([48, 47], [47, 48]), ([47, 49], [47, 49]), ([50, 47], [50]), ([51], [51]), ([52, 51, 51], [51, 52]), ([53, 51], [51, 53]), ([51, 54], [51, 54]), ([55, 53], [55]), ([56], [56]), ([57, 56, 56], [56, 57]), ([58, 56], [56, 58]), ([56, 59], [56, 59]), ([60, 58], [60]), ([61], [61]), ([62, 61, 61], [61, 62]), ([63, 61], [61, 63]), ([61, 64], [61, 64]), ([65, 63], [65]), ([66], [66]), ([67, 66], [66, 67]), ([66, 68], [66, 68]), ([69, 66], [69]), ([70], [70]), ([71, 70], [70, 71]), ([70, 72], [70, 72]), ([73, 70], [73]), ([74], [74]), ([74, 75], [74, 75]), ([76, 74], [76]), ([77], [77]), ([78, 77], [77, 78]), ([77, 79], [77, 79]), ([80, 77], [80]), ([81], [81]), ([82, 81], [81, 82]), ([81, 83], [81, 83]), ([84, 81], [84]), ([85], [85]), ([86, 85], [85, 86]), ([85, 87], [85, 87]), ([88, 85], [88]), ([89], [89]), ([90, 89], [89, 90]), ([89, 91], [89, 91]), ([92, 89], [92]), ([93], [93]), ([94, 93], [93, 94]), ([93, 95], [93, 95]), ([96, 93], [96]), ([97], [97]), ([97, 98], [97, 98]), ([99, 97], [99]), ([100], [100]), ([101, 100], [100, 101]), ([100, 102], [100, 102]), ([103, 100], [103]), ([104], [104]), ([105, 104, 104], [104, 105]), ([104, 106], [104, 106]), ([107, 106], [107]), ([108], [108]), ([109, 108, 108], [108, 109]), ([110, 108], [108, 110]), ([108, 111], [108, 111]), ([112, 110], [112]), ([113], [113]), ([113], [113]), ([114, 115, 113, 113], [113, 114, 115]), ([113, 116], [113, 116]), ([117, 116], [117]), ([118], [118]), ([118], [118]), ([119, 120, 118, 118], [118, 119, 120]), ([121, 118], [118, 121]), ([118, 122], [118, 122]), ([123, 121], [123]), ([124], [124]), ([125, 124, 124], [124, 125]), ([126, 124], [124, 126]), ([124, 127], [124, 127]), ([128, 126, 0, 1, 2, 3, 4, 5, 6, 7, 8, 9, 10, 11, 12, 13, 14, 15, 16, 17, 18, 19, 20, 21, 22, 23, 24, 25, 26, 27, 28, 29, 30, 31, 32, 33, 34, 35, 36, 37, 38, 39, 40, 41, 42, 43, 44, 45, 46, 47, 48, 49, 50, 51, 52, 53, 54, 55, 56, 57, 58, 59, 60, 61, 62, 63, 64, 65, 66, 67, 68, 69, 70, 71, 72, 73, 74, 75, 76, 77, 78, 79, 80, 81, 82, 83, 84, 85, 86, 87, 88, 89, 90, 91, 92, 93, 94, 95, 96, 97, 98, 99, 100, 101, 102, 103, 104, 105, 106, 107, 108, 109, 110, 111, 112, 113, 114, 115, 116, 117, 118, 119, 120, 121, 122, 123, 124, 125, 126, 127, 128], [128])])
def withylaw11_fixed.B18 : List Nat := [0, 1, 3, 7, 15, 31, 63, 127, 255, 511, 1023, 2047, 4095, 8191, 16383, 32767, 65535, 131071, 262143, 524287, 1048575, 2097151, 4194303, 8388607, 16777215, 33554431, 67108863, 134217727, 67108863, 536870911, 1073741823, 2147483647, 4294967295, 8589934591, 17179869183, 34359738367, 68719476735, 137438953471, 274877906943, 137438953471, 1099511627775, 2199023255551, 4398046511103, 8796093022207, 17592186044415, 35184372088831, 70368744177663, 140737488355327, 281474976710655, 562949953421311, 1125899906842623, 2251799813685247, 4503599627370495, 9007199254740991, 18014398509481983, 36028797018963967, 72057594037927935, 144115188075855871, 288230376151711743, 576460752303423487, 1152921504606846975, 2305843009213693951, 4611686018427387903, 9223372036854775807, 18446744073709551615, 36893488147419103231, 73786976294838206463, 147573952589676412927, 295147905179352825855, 590295810358705651711, 1180591620717411303423, 2361183241434822606847, 4722366482869645213695, 9444732965739290427391, 18889465931478580854783, 37778931862957161709567, 75557863725914323419135, 151115727451828646838271, 302231454903657293676543, 604462909807314587353087, 1208925819614629174706175, 2417851639229258349412351, 4835703278458516698824703, 9671406556917033397649407, 19342813113834066795298815, 38685626227668133590597631, 77371252455336267181195263, 154742504910672534362390527, 309485009821345068724781055, 618970019642690137449562111, 1237940039285380274899124223, 2475880078570760549798248447, 4951760157141521099596496895, 9903520314283042199192993791, 19807040628566084398385987583, 39614081257132168796771975167, 79228162514264337593543950335, 158456325028528675187087900671, 316912650057057350374175801343, 633825300114114700748351602687, 1267650600228229401496703205375, 2535301200456458802993406410751, 5070602400912917605986812821503, 10141204801825835211973625643007, 20282409603651670423947251286015, 40564819207303340847894502572031, 81129638414606681695789005144063, 162259276829213363391578010288127, 324518553658426726783156020576255, 649037107316853453566312041152511, 1298074214633706907132624082305023, 2596148429267413814265248164610047, 5192296858534827628530496329220095, 10384593717069655257060992658440191, 20769187434139310514121985316880383, 20769187434139310514121985316880383, 83076749736557242056487941267521535, 166153499473114484112975882535043071, 332306998946228968225951765070086143, 664613997892457936451903530140172287, 664613997892457936451903530140172287, 2658455991569831745807614120560689151, 5316911983139663491615228241121378303, 10633823966279326983230456482242756607, 21267647932558653966460912964485513215, 42535295865117307932921825928971026431, 85070591730234615865843651857942052863, 170141183460469231731687303715884105727, 340282366920938463463374607431768211455, 680564733841876926926749214863536422911]
theorem withylaw11_fixed.tab18 : rtab .any (opsOf Tryz.f19 18) = withylaw11_fixed.T18 := by kernel_rfl
theorem withylaw11_fixed.bits18 : waitsOk withylaw11_fixed.T18.2 withylaw11_fixed.B18 = true := by kernel_rfl
theorem box_gen {P : Program} {ops : Array Oper} {Q : Exit → Act → World → Prop} {rest : List Oper} {a : Act} {W : World} {C : World → Prop} (hC : C W) (h : ∀ W', C W' → wpList P ops Q rest a W') : wpList P ops Q rest a W := h W hC
theorem z0 {Q : Prop} (q : Q := by repeat (first | (with_reducible first | exact HZ0.out | apply below_alloc | apply pw_below_drewN | apply below_drew1 | refine below_set ?_ (Aside0.out (by with_reducible assumption))) | exact HZ0.out)) : Q := q
theorem z1 {Q : Prop} (q : Q := by repeat (first | (with_reducible first | exact HZ1.out | apply below_alloc | apply pw_below_drewN | apply below_drew1 | refine below_set ?_ (Aside0.out (by with_reducible assumption))) | exact HZ1.out)) : Q := q
theorem z2 {Q : Prop} (q : Q := by repeat (first | (with_reducible first | exact HZ2.out | apply below_alloc | apply pw_below_drewN | apply below_drew1 | refine below_set ?_ (Aside0.out (by with_reducible assumption))) | exact HZ2.out)) : Q := q
theorem z3 {Q : Prop} (q : Q := by repeat (first | (with_reducible first | exact HZ3.out | apply below_alloc | apply pw_below_drewN | apply below_drew1 | refine below_set ?_ (Aside0.out (by with_reducible assumption))) | exact HZ3.out)) : Q := q
theorem z4 {Q : Prop} (q : Q := by repeat (first | (with_reducible first | exact HZ4.out | apply below_alloc | apply pw_below_drewN | apply below_drew1 | refine below_set ?_ (Aside0.out (by with_reducible assumption))) | exact HZ4.out)) : Q := q
set_option maxHeartbeats 60000000 in
set_option maxRecDepth 100000 in
theorem withylaw11_fixed.calls (k : Nat)  (r : Bool) (w : World) (h : withylaw11_fixed.f k  = some r) :
  Calls Tryz.prog 19 #[] w fun e w' => e = .returned (.bool r) ∧ Below w.heap.size w w' := by
 have hu25 := Tryz.underlying25
 have HB := as_ (Below.refl w.heap.size w)
 have H : ((withylaw11_two.f).bind fun bt346 => ((inner_Encode.f k bt346.1 bt346.2.1 bt346.2.2.1 bt346.2.2.2.1 bt346.2.2.2.2.1 bt346.2.2.2.2.2 128).bind fun bt357 => ((inner_Encode.f k bt346.1 bt346.2.1 bt346.2.2.1 bt346.2.2.2.1 bt346.2.2.2.2.1 bt346.2.2.2.2.2 100).bind fun bt359 => (if bt357.2 = 0 then (withylaw11_fixed.j0 k bt357.1 bt359.2 ((bt357.1.size : Int) != 128) bt346.1 bt346.2.1 bt346.2.2.1 bt346.2.2.2.1 bt346.2.2.2.2.1 bt346.2.2.2.2.2) else (withylaw11_fixed.j0 k bt357.1 bt359.2 true bt346.1 bt346.2.1 bt346.2.2.1 bt346.2.2.2.1 bt346.2.2.2.2.1 bt346.2.2.2.2.2))))) = some r := h
 clear h
 obtain ⟨⟨t346, t347, t348, t349, t350, t353⟩, A1, H⟩ := bN H
 (try dsimp only at H)
 obtain ⟨⟨t357, t358⟩, A2, H⟩ := bN H
 (try dsimp only at H)
 obtain ⟨⟨t359, t360⟩, A3, H⟩ := bN H
 (try dsimp only at H)
 have HC4 := Aside0.mk H
 clear H
 go_enter Tryz.func19, Tryz.ntmps19
 (try simp only [List.append_eq, List.cons_append, List.nil_append])
 go_upto_region 4 with (first | ((with_reducible refine gate_callee (f := 53) rfl ?_); refine goesL_ (some 29) rfl rfl Tryz.func53 (by kernel_rfl) rfl #[] rfl aO ?_; (with_reducible refine (withylaw11_two.calls  t346 t347 t348 t349 t350 t353 _ A1.out).mono ?_); rintro e w5 ⟨v351, v354, rfl, ho0, ho1, hb⟩; refine ⟨_, rfl, ?_⟩; have HO352 := as_ (Kd.R_lower ho0 (below_size bA)); have HO355 := as_ (Kd.R_lower ho1 (below_size bA)); replace HB := as_ (below_step bA hb); (try clear hb); (try clear ho0); (try clear ho1)) | ((with_reducible refine gate_dst (N := 1) rfl ?_); (try (refine gate_guard (by rfl) ?_; dsimp only)); refine box_event ?hg (N := 1) ?hd (cs := #[.int .i64 0, .int .i64 0, .int .i64 0, .string (⟨#[]⟩ : ByteArray), .slice none 0 0, .slice none 0 0]) (t := 25) ?hr ?_; (case hd => rfl); (case hg => rfl); (case hr => first | (go_simp; done) | (go_simp; rfl)); intro gb356 hg w6 hbox hb; have BK356 := as_ (hbox); have GW356 := gw hg bA; have GE356 := gw hg bA; replace HO352 := as_ (Kd.R_below (rD HO352) hb); replace HO355 := as_ (Kd.R_below (rD HO355) hb); replace HB := as_ (below_step bA hb); clear hb hbox hg; obtain ⟨hcz7_0, hcz7_1, hcz7_2, hcz7_3, hcz7_4, hcz7_5⟩ := zc6 BK356; obtain ⟨hfz7_0, hfz7_1, hfz7_2, hfz7_3, hfz7_4, hfz7_5⟩ := zf6 BK356; obtain ⟨Ao8, co8, eo8⟩ := Kd.R_slice HO352.out; subst eo8; obtain ⟨Ao9, co9, eo9⟩ := Kd.R_slice HO355.out; subst eo9) | ((with_reducible refine gate_callee (f := 10) rfl ?_); refine goesL_ (some 32) rfl rfl Tryz.func10 (by kernel_rfl) rfl #[.agg #[.int .i64 t346, .int .i64 t347, .int .i64 t348, .string t349, .slice Ao8 t350.length co8, .slice Ao9 t353.length co9], .int .i64 128] rfl aO ?_; (with_reducible refine (inner_Encode.calls k t346 t347 t348 t349 _ _ t350 _ _ t353 128 t357 t358 _ ?side1 ?side2 ?side3 ?side4 A2.out).mono ?_); (case side1 => refine (Kd.R_reads' (e := 3) (base := w.heap.size) (ok := fun k_ => True) (n := t350.length) (c := co8) ?_).2.2; exact (by (with_reducible repeat (first | apply Kd.R_alloc | apply Kd.R_drewN | apply Kd.R_drew)); exact (Kd.R_mono (Kd.R_far (p := ⟨gb356, 5, none⟩) (Kd.R_far (p := ⟨gb356, 4, none⟩) (Kd.R_far (p := ⟨gb356, 3, none⟩) (Kd.R_far (p := ⟨gb356, 2, none⟩) (Kd.R_far (p := ⟨gb356, 1, none⟩) (Kd.R_far (p := ⟨gb356, 0, none⟩) (Kd.R_types HO352.out BK356.out (by decide)) (fun _ hk => hk.2) (.int .i64 t346)) (fun _ hk => hk.2) (.int .i64 t347)) (fun _ hk => hk.2) (.int .i64 t348)) (fun _ hk => hk.2) (.string t349)) (fun _ hk => hk.2) (.slice Ao8 t350.length co8)) (fun _ hk => hk.2) (.slice Ao9 t353.length co9)) (fun _ h_ => h_.1)))); (case side2 => exact (Kd.R_reads' HO352.out).2.1); (case side3 => refine (Kd.R_reads' (e := 9) (base := w.heap.size) (ok := fun k_ => True) (n := t353.length) (c := co9) ?_).2.2; exact (by (with_reducible repeat (first | apply Kd.R_alloc | apply Kd.R_drewN | apply Kd.R_drew)); exact (Kd.R_mono (Kd.R_far (p := ⟨gb356, 5, none⟩) (Kd.R_far (p := ⟨gb356, 4, none⟩) (Kd.R_far (p := ⟨gb356, 3, none⟩) (Kd.R_far (p := ⟨gb356, 2, none⟩) (Kd.R_far (p := ⟨gb356, 1, none⟩) (Kd.R_far (p := ⟨gb356, 0, none⟩) (Kd.R_types HO355.out BK356.out (by decide)) (fun _ hk => hk.2) (.int .i64 t346)) (fun _ hk => hk.2) (.int .i64 t347)) (fun _ hk => hk.2) (.int .i64 t348)) (fun _ hk => hk.2) (.string t349)) (fun _ hk => hk.2) (.slice Ao8 t350.length co8)) (fun _ hk => hk.2) (.slice Ao9 t353.length co9)) (fun _ h_ => h_.1)))); (case side4 => exact (Kd.R_reads' HO355.out).2.1); rintro e w10 ⟨rfl, hb⟩; refine ⟨_, rfl, ?_⟩; replace HO352 := as_ (Kd.R_below (by (with_reducible repeat (first | apply Kd.R_alloc | apply Kd.R_drewN | apply Kd.R_drew)); exact (Kd.R_mono (Kd.R_far (p := ⟨gb356, 5, none⟩) (Kd.R_far (p := ⟨gb356, 4, none⟩) (Kd.R_far (p := ⟨gb356, 3, none⟩) (Kd.R_far (p := ⟨gb356, 2, none⟩) (Kd.R_far (p := ⟨gb356, 1, none⟩) (Kd.R_far (p := ⟨gb356, 0, none⟩) (Kd.R_types HO352.out BK356.out (by decide)) (fun _ hk => hk.2) (.int .i64 t346)) (fun _ hk => hk.2) (.int .i64 t347)) (fun _ hk => hk.2) (.int .i64 t348)) (fun _ hk => hk.2) (.string t349)) (fun _ hk => hk.2) (.slice Ao8 t350.length co8)) (fun _ hk => hk.2) (.slice Ao9 t353.length co9)) (fun _ h_ => h_.1))) hb); replace HO355 := as_ (Kd.R_below (by (with_reducible repeat (first | apply Kd.R_alloc | apply Kd.R_drewN | apply Kd.R_drew)); exact (Kd.R_mono (Kd.R_far (p := ⟨gb356, 5, none⟩) (Kd.R_far (p := ⟨gb356, 4, none⟩) (Kd.R_far (p := ⟨gb356, 3, none⟩) (Kd.R_far (p := ⟨gb356, 2, none⟩) (Kd.R_far (p := ⟨gb356, 1, none⟩) (Kd.R_far (p := ⟨gb356, 0, none⟩) (Kd.R_types HO355.out BK356.out (by decide)) (fun _ hk => hk.2) (.int .i64 t346)) (fun _ hk => hk.2) (.int .i64 t347)) (fun _ hk => hk.2) (.int .i64 t348)) (fun _ hk => hk.2) (.string t349)) (fun _ hk => hk.2) (.slice Ao8 t350.length co8)) (fun _ hk => hk.2) (.slice Ao9 t353.length co9)) (fun _ h_ => h_.1))) hb); replace BK356 := as_ (blk_below (g := gb356) (o := .cells #[.int .i64 t346, .int .i64 t347, .int .i64 t348, .string t349, .slice Ao8 t350.length co8, .slice Ao9 t353.length co9] 25 (0, 0)) (by refine bx ?_; refine blk_put (cs := #[.int .i64 t346, .int .i64 t347, .int .i64 t348, .string t349, .slice Ao8 t350.length co8, .slice none 0 0]) ?_ 5 _ rfl; refine bx ?_; refine blk_put (cs := #[.int .i64 t346, .int .i64 t347, .int .i64 t348, .string t349, .slice none 0 0, .slice none 0 0]) ?_ 4 _ rfl; refine bx ?_; refine blk_put (cs := #[.int .i64 t346, .int .i64 t347, .int .i64 t348, .string (⟨#[]⟩ : ByteArray), .slice none 0 0, .slice none 0 0]) ?_ 3 _ rfl; refine bx ?_; refine blk_put (cs := #[.int .i64 t346, .int .i64 t347, .int .i64 0, .string (⟨#[]⟩ : ByteArray), .slice none 0 0, .slice none 0 0]) ?_ 2 _ rfl; refine bx ?_; refine blk_put (cs := #[.int .i64 t346, .int .i64 0, .int .i64 0, .string (⟨#[]⟩ : ByteArray), .slice none 0 0, .slice none 0 0]) ?_ 1 _ rfl; refine bx ?_; refine blk_put (cs := #[.int .i64 0, .int .i64 0, .int .i64 0, .string (⟨#[]⟩ : ByteArray), .slice none 0 0, .slice none 0 0]) ?_ 0 _ rfl; refine bx ?_; exact BK356.out) hb); replace HB := as_ (below_step bA hb); (try clear hb); obtain ⟨hcz11_0, hcz11_1, hcz11_2, hcz11_3, hcz11_4, hcz11_5⟩ := zc6 BK356; obtain ⟨hfz11_0, hfz11_1, hfz11_2, hfz11_3, hfz11_4, hfz11_5⟩ := zf6 BK356) | ((with_reducible refine gate_callee (f := 10) rfl ?_); refine goesL_ (some 37) rfl rfl Tryz.func10 (by kernel_rfl) rfl #[.agg #[.int .i64 t346, .int .i64 t347, .int .i64 t348, .string t349, .slice Ao8 t350.length co8, .slice Ao9 t353.length co9], .int .i64 100] rfl aO ?_; (with_reducible refine (inner_Encode.calls k t346 t347 t348 t349 _ _ t350 _ _ t353 100 t359 t360 _ ?side1 ?side2 ?side3 ?side4 A3.out).mono ?_); (case side1 => repeat (first | exact (Kd.R_reads' HO352.out).2.2 | (with_reducible refine Kd.C_alloc ?_ _) | (with_reducible refine Kd.C_drewN ?_ _) | (with_reducible refine Kd.C_drew ?_))); (case side2 => exact (Kd.R_reads' HO352.out).2.1); (case side3 => repeat (first | exact (Kd.R_reads' HO355.out).2.2 | (with_reducible refine Kd.C_alloc ?_ _) | (with_reducible refine Kd.C_drewN ?_ _) | (with_reducible refine Kd.C_drew ?_))); (case side4 => exact (Kd.R_reads' HO355.out).2.1); rintro e w12 ⟨rfl, hb⟩; refine ⟨_, rfl, ?_⟩; replace HO352 := as_ (Kd.R_below (rD HO352) hb); replace HO355 := as_ (Kd.R_below (rD HO355) hb); replace BK356 := bb BK356 hb; replace HB := as_ (below_step bA hb); (try clear hb); (try clear hi)))
 (try simp only [Act.put, List.setIfInBounds_toArray, List.set_cons_zero, List.set_cons_succ])
 go_cut [46] (fun v46 wc => ∃ (kq : Nat) (x46_3 : Bool), v46 = .bool x46_3 ∧ Aside0 (withylaw11_fixed.j0 kq t357 t360 x46_3 t346 t347 t348 t349 t350 t353 = some r) ∧ Aside0 (kq ≤ k) ∧ Aside0 (Kd.R (Kd.int .i64) 3 wc w.heap.size (fun _ => True) (.slice Ao8 t350.length co8) t350) ∧ Aside0 (Kd.R Kd.string 9 wc w.heap.size (fun _ => True) (.slice Ao9 t353.length co9) t353) ∧ Aside0 (wc.heap[gb356]? = some (.cells #[.int .i64 t346, .int .i64 t347, .int .i64 t348, .string t349, (.slice Ao8 t350.length co8), (.slice Ao9 t353.length co9)] 25 (0, 0))) ∧ Aside0 (Below w.heap.size w wc))
 case first =>
  have H := HC4.out
  clear HC4
  by_cases c13 : t358 = 0
  rotate_left
  ·rw [if_neg c13] at H
   have c13b0 := beq_eq_false_iff_ne.mpr c13
   have c13b1 := bne_iff_ne.mpr c13
   (first | rw [c13b0] | (simp only [i64_w, i32_w]; rw [c13b0]) | rw [c13b1] | skip)
   have H' := Aside0.mk H
   clear H
   go_wp2
   go_meet
   case rel => exact ⟨_, (true), (by first | rfl | (simp; done) | (simp [*]; done)), H', ⟨by first | omega | exact Nat.le_refl _⟩, ⟨by (with_reducible repeat (first | apply Kd.R_alloc | apply Kd.R_drewN | apply Kd.R_drew)); exact HO352.out⟩, ⟨by (with_reducible repeat (first | apply Kd.R_alloc | apply Kd.R_drewN | apply Kd.R_drew)); exact HO355.out⟩, ⟨by refine bx ?_; exact BK356.out⟩, ⟨bA⟩⟩
  rw [if_pos c13] at H
  have c13b0 := beq_iff_eq.mpr c13
  have c13b1 := bne_eq_false_iff_eq.mpr c13
  clear c13
  (first | rw [c13b0] | (simp only [i64_w, i32_w]; rw [c13b0]) | rw [c13b1] | skip)
  have H' := Aside0.mk H
  clear H
  go_wp2
  go_meet
  case rel => exact ⟨_, (((t357.size : Int) != 128)), (by first | rfl | (simp; done) | (simp [*]; done)), H', ⟨by first | omega | exact Nat.le_refl _⟩, ⟨by (with_reducible repeat (first | apply Kd.R_alloc | apply Kd.R_drewN | apply Kd.R_drew)); exact HO352.out⟩, ⟨by (with_reducible repeat (first | apply Kd.R_alloc | apply Kd.R_drewN | apply Kd.R_drew)); exact HO355.out⟩, ⟨by refine bx ?_; exact BK356.out⟩, ⟨bA⟩⟩
 case rest =>
  clear HC4
  try clear c1
  try clear p2
  try clear c5
  try clear c10
  try clear c13
  try clear c13b0
  try clear c13b1
  try clear hcz11_0
  try clear hcz11_1
  try clear hcz11_2
  try clear hcz11_3
  try clear hcz11_4
  try clear hcz11_5
  try clear hcz7_0
  try clear hcz7_1
  try clear hcz7_2
  try clear hcz7_3
  try clear hcz7_4
  try clear hcz7_5
  try clear hfz11_0
  try clear hfz11_1
  try clear hfz11_2
  try clear hfz11_3
  try clear hfz11_4
  try clear hfz11_5
  try clear hfz7_0
  try clear hfz7_1
  try clear hfz7_2
  try clear hfz7_3
  try clear hfz7_4
  try clear hfz7_5
  obtain ⟨kq, x46_3, rfl, HA, HJ3, HO_357004, HO_357005, BK356, HB⟩ := hcut
  cases kq with
  | zero => exact absurd HA.out (by simp [withylaw11_fixed.j0])
  | succ kj3 =>
   have H := HA.out
   clear HA
   simp only [withylaw11_fixed.j0] at H
   by_cases c14 : x46_3 = true
   ·subst c14
    have H1 : (none) = some r := by rw [if_pos rfl] at H; exact H
    clear H
    have H := H1
    clear H1
    exact absurd H (by simp)
   replace c14 := Bool.eq_false_iff.mpr c14
   subst c14
   have H1 : ((withylaw11_two.f).bind fun bt361 => ((inner_Encode.f kj3 bt361.1 bt361.2.1 2 bt361.2.2.2.1 bt361.2.2.2.2.1 bt361.2.2.2.2.2 128).bind fun bt372 => ((inner_Encode.f kj3 bt361.1 bt361.2.1 2 (⟨#[110]⟩ : ByteArray) bt361.2.2.2.2.1 bt361.2.2.2.2.2 128).bind fun bt374 => ((inner_Decode.f kj3 t357).bind fun bt376 => ((inner_Decode.f kj3 bt374.1).bind fun bt388 => ((withyref01_Repeat.f kj3 0 128).bind fun t400 => ((inner_Decode.f kj3 t400).bind fun bt401 => ((inner_Ends.f t346 t347 t348 t349 t350 t353 (⟨#[99]⟩ : ByteArray) 0).bind fun bt413 => ((inner_Ends.f t346 t347 t348 t349 t350 t353 (⟨#[99]⟩ : ByteArray) 1).bind fun bt416 => ((inner_Ends.f bt361.1 bt361.2.1 2 (⟨#[110]⟩ : ByteArray) bt361.2.2.2.2.1 bt361.2.2.2.2.2 (⟨#[99]⟩ : ByteArray) 1).bind fun bt419 => ((inner_Ends.f bt361.1 bt361.2.1 2 (⟨#[110]⟩ : ByteArray) bt361.2.2.2.2.1 bt361.2.2.2.2.2 (⟨#[99]⟩ : ByteArray) 2).bind fun bt422 => (if 0 < (t357.size : Int) then (if (bt t357 0) = 3 then (if 1 < (t357.size : Int) then (if (bt t357 1) = 1 then (if 16 ≤ 30 then (if 30 ≤ (t357.size : Int) then (if (t357.extract 16 30).toList = ([1, 109, 0, 4, 0, 0, 0, 0, 5, 0, 0, 0, 0, 0] : List UInt8) then (if t360 = 4 then (if bt372.2 = 3 then (if bt374.2 = 0 then ((withylaw11_Ref.f bt376.1 bt376.2.1 bt376.2.2.1 bt376.2.2.2.1 bt376.2.2.2.2.1 bt376.2.2.2.2.2.1).bind fun bt425 => ((withylaw11_Ref.f t346 t347 t348 t349 t350 t353).bind fun bt435 => ((withyref11_Same.f kj3 bt425.1 bt425.2.1 bt425.2.2.1 bt425.2.2.2.1 bt425.2.2.2.2.1 bt425.2.2.2.2.2 bt435.1 bt435.2.1 bt435.2.2.1 bt435.2.2.2.1 bt435.2.2.2.2.1 bt435.2.2.2.2.2).bind fun t445 => (if t445 = true then (if bt376.2.2.2.2.2.2 = 0 then ((withylaw11_Ref.f bt388.1 bt388.2.1 bt388.2.2.1 bt388.2.2.2.1 bt388.2.2.2.2.1 bt388.2.2.2.2.2.1).bind fun bt446 => ((withylaw11_Ref.f bt361.1 bt361.2.1 2 (⟨#[110]⟩ : ByteArray) bt361.2.2.2.2.1 bt361.2.2.2.2.2).bind fun bt456 => ((withyref11_Same.f kj3 bt446.1 bt446.2.1 bt446.2.2.1 bt446.2.2.2.1 bt446.2.2.2.2.1 bt446.2.2.2.2.2 bt456.1 bt456.2.1 bt456.2.2.1 bt456.2.2.2.1 bt456.2.2.2.2.1 bt456.2.2.2.2.2).bind fun t466 => (if t466 = true then (if bt388.2.2.2.2.2.2 = 0 then (if bt401.2.2.2.2.2.2 = 3 then ((inner_Route.f kj3 t346 t347 t348 t349 t350 t353 (⟨#[97]⟩ : ByteArray)).bind fun t467 => (if t467 = 0 then ((inner_Route.f kj3 t346 t347 t348 t349 t350 t353 (⟨#[109]⟩ : ByteArray)).bind fun t468 => (if t468 = 1 then ((inner_Route.f kj3 t346 t347 t348 t349 t350 t353 (⟨#[108, 255]⟩ : ByteArray)).bind fun t469 => (if t469 = 0 then (if bt413.1.toList = ([99] : List UInt8) then (if bt413.2.1.toList = ([109] : List UInt8) then (if bt413.2.2 = true then (if bt416.1.toList = ([109] : List UInt8) then (if bt416.2.1.toList = ([] : List UInt8) then (if bt416.2.2 = true then (none) else (if bt419.1.toList = ([109] : List UInt8) then (if bt419.2.1.toList = ([110] : List UInt8) then (if bt419.2.2 = true then (if bt422.2.2 = true then (none) else ((inner_May.f kj3 t346 t347 t348 t349 t350 t353 128).bind fun t470 => (if t470 = true then ((inner_May.f kj3 0 0 0 (⟨#[]⟩ : ByteArray) ([] : List Int) ([] : List ByteArray) 128).bind fun t471 => (if t471 = true then (none) else ((inner_Same.f kj3 t346 t347 t348 t349 t350 t353 t346 t347 t348 t349 t350 t353).bind fun t472 => (if t472 = true then ((inner_Same.f kj3 t346 t347 t348 t349 t350 t353 bt361.1 bt361.2.1 2 (⟨#[110]⟩ : ByteArray) bt361.2.2.2.2.1 bt361.2.2.2.2.2).bind fun t473 => (if t473 = true then (none) else ((inner_Size.f kj3 t346 t347 t348 t349 t350 t353).bind fun t474 => (some (t474 == 19))))) else (none))))) else (none)))) else (none)) else (none)) else (none))) else (none)) else (none)) else (none)) else (none)) else (none)) else (none))) else (none))) else (none))) else (none)) else (none)) else (none))))) else (none)) else (none))))) else (none)) else (none)) else (none)) else (none)) else (none)) else (none)) else (none)) else (none)) else (none)) else (none))))))))))))) = some r := by rw [if_neg (show ¬ (false = true) by decide)] at H; exact H
   clear H
   have H := H1
   clear H1
   obtain ⟨⟨t361, t362, t363, t364, t365, t368⟩, A15, H⟩ := bN H
   (try dsimp only at H)
   obtain ⟨⟨t372, t373⟩, A16, H⟩ := bN H
   (try dsimp only at H)
   obtain ⟨⟨t374, t375⟩, A17, H⟩ := bN H
   (try dsimp only at H)
   obtain ⟨⟨t376, t377, t378, t379, t380, t383, t386⟩, A18, H⟩ := bN H
   (try dsimp only at H)
   obtain ⟨⟨t388, t389, t390, t391, t392, t395, t398⟩, A19, H⟩ := bN H
   (try dsimp only at H)
   obtain ⟨t400, A20, H⟩ := bN H
   (try dsimp only at H)
   obtain ⟨⟨t401, t402, t403, t404, t405, t408, t411⟩, A21, H⟩ := bN H
   (try dsimp only at H)
   obtain ⟨⟨t413, t414, t415⟩, A22, H⟩ := bN H
   (try dsimp only at H)
   obtain ⟨⟨t416, t417, t418⟩, A23, H⟩ := bN H
   (try dsimp only at H)
   obtain ⟨⟨t419, t420, t421⟩, A24, H⟩ := bN H
   (try dsimp only at H)
   obtain ⟨⟨t422, t423, t424⟩, A25, H⟩ := bN H
   (try dsimp only at H)
   obtain ⟨c26, H⟩ := iN (c := 0 < (t357.size : Int)) H
   have c26b0 := decide_eq_true c26
   have c26b1 : decide (0 < t357.size) = true := decide_eq_true (by omega)
   clear c26
   obtain ⟨c28, H⟩ := iN (c := (bt t357 0) = 3) H
   have c28b0 := beq_iff_eq.mpr c28
   have c28b1 := bne_eq_false_iff_eq.mpr c28
   clear c28
   obtain ⟨c29, H⟩ := iN (c := 1 < (t357.size : Int)) H
   have c29b0 := decide_eq_true c29
   have c29b1 : decide (1 < t357.size) = true := decide_eq_true (by omega)
   clear c29
   obtain ⟨c31, H⟩ := iN (c := (bt t357 1) = 1) H
   have c31b0 := beq_iff_eq.mpr c31
   have c31b1 := bne_eq_false_iff_eq.mpr c31
   clear c31
   obtain ⟨c32, H⟩ := iN (c := 16 ≤ 30) H
   have c32b0 := eq_true c32
   have c32b1 := decide_eq_true c32
   clear c32
   obtain ⟨c33, H⟩ := iN (c := 30 ≤ (t357.size : Int)) H
   have c33b0 := eq_true c33
   have c33b1 := decide_eq_true c33
   clear c33
   obtain ⟨js34, hjs34⟩ : ∃ j_ : ByteArray, (t357.extract 16 30) = j_ := ⟨_, rfl⟩
   replace H : (if (js34).toList = ([1, 109, 0, 4, 0, 0, 0, 0, 5, 0, 0, 0, 0, 0] : List UInt8) then (if t360 = 4 then (if t373 = 3 then (if t375 = 0 then ((withylaw11_Ref.f t376 t377 t378 t379 t380 t383).bind fun bt425 => ((withylaw11_Ref.f t346 t347 t348 t349 t350 t353).bind fun bt435 => ((withyref11_Same.f kj3 bt425.1 bt425.2.1 bt425.2.2.1 bt425.2.2.2.1 bt425.2.2.2.2.1 bt425.2.2.2.2.2 bt435.1 bt435.2.1 bt435.2.2.1 bt435.2.2.2.1 bt435.2.2.2.2.1 bt435.2.2.2.2.2).bind fun t445 => (if t445 = true then (if t386 = 0 then ((withylaw11_Ref.f t388 t389 t390 t391 t392 t395).bind fun bt446 => ((withylaw11_Ref.f t361 t362 2 (⟨#[110]⟩ : ByteArray) t365 t368).bind fun bt456 => ((withyref11_Same.f kj3 bt446.1 bt446.2.1 bt446.2.2.1 bt446.2.2.2.1 bt446.2.2.2.2.1 bt446.2.2.2.2.2 bt456.1 bt456.2.1 bt456.2.2.1 bt456.2.2.2.1 bt456.2.2.2.2.1 bt456.2.2.2.2.2).bind fun t466 => (if t466 = true then (if t398 = 0 then (if t411 = 3 then ((inner_Route.f kj3 t346 t347 t348 t349 t350 t353 (⟨#[97]⟩ : ByteArray)).bind fun t467 => (if t467 = 0 then ((inner_Route.f kj3 t346 t347 t348 t349 t350 t353 (⟨#[109]⟩ : ByteArray)).bind fun t468 => (if t468 = 1 then ((inner_Route.f kj3 t346 t347 t348 t349 t350 t353 (⟨#[108, 255]⟩ : ByteArray)).bind fun t469 => (if t469 = 0 then (if t413.toList = ([99] : List UInt8) then (if t414.toList = ([109] : List UInt8) then (if t415 = true then (if t416.toList = ([109] : List UInt8) then (if t417.toList = ([] : List UInt8) then (if t418 = true then (none) else (if t419.toList = ([109] : List UInt8) then (if t420.toList = ([110] : List UInt8) then (if t421 = true then (if t424 = true then (none) else ((inner_May.f kj3 t346 t347 t348 t349 t350 t353 128).bind fun t470 => (if t470 = true then ((inner_May.f kj3 0 0 0 (⟨#[]⟩ : ByteArray) ([] : List Int) ([] : List ByteArray) 128).bind fun t471 => (if t471 = true then (none) else ((inner_Same.f kj3 t346 t347 t348 t349 t350 t353 t346 t347 t348 t349 t350 t353).bind fun t472 => (if t472 = true then ((inner_Same.f kj3 t346 t347 t348 t349 t350 t353 t361 t362 2 (⟨#[110]⟩ : ByteArray) t365 t368).bind fun t473 => (if t473 = true then (none) else ((inner_Size.f kj3 t346 t347 t348 t349 t350 t353).bind fun t474 => (some (t474 == 19))))) else (none))))) else (none)))) else (none)) else (none)) else (none))) else (none)) else (none)) else (none)) else (none)) else (none)) else (none))) else (none))) else (none))) else (none)) else (none)) else (none))))) else (none)) else (none))))) else (none)) else (none)) else (none)) else (none)) = some r := by first | (rw [hjs34] at H; exact H) | (simp only [hjs34] at H ⊢; exact H)
   (try rw [hjs34] at A15)
   (try rw [hjs34] at A16)
   (try rw [hjs34] at A17)
   (try rw [hjs34] at A18)
   (try rw [hjs34] at A19)
   (try rw [hjs34] at A20)
   (try rw [hjs34] at A21)
   (try rw [hjs34] at A22)
   (try rw [hjs34] at A23)
   (try rw [hjs34] at A24)
   (try rw [hjs34] at A25)
   obtain ⟨c35, H⟩ := iN (c := (js34).toList = ([1, 109, 0, 4, 0, 0, 0, 0, 5, 0, 0, 0, 0, 0] : List UInt8)) H
   have c35b0 := beq_iff_eq.mpr c35
   have c35b1 := bne_eq_false_iff_eq.mpr c35
   clear c35
   obtain ⟨c36, H⟩ := iN (c := t360 = 4) H
   have c36b0 := beq_iff_eq.mpr c36
   have c36b1 := bne_eq_false_iff_eq.mpr c36
   clear c36
   obtain ⟨c37, H⟩ := iN (c := t373 = 3) H
   have c37b0 := beq_iff_eq.mpr c37
   have c37b1 := bne_eq_false_iff_eq.mpr c37
   clear c37
   obtain ⟨c38, H⟩ := iN (c := t375 = 0) H
   have c38b0 := beq_iff_eq.mpr c38
   have c38b1 := bne_eq_false_iff_eq.mpr c38
   clear c38
   obtain ⟨⟨t425, t426, t427, t428, t429, t432⟩, A39, H⟩ := bN H
   (try dsimp only at H)
   obtain ⟨⟨t435, t436, t437, t438, t439, t442⟩, A40, H⟩ := bN H
   (try dsimp only at H)
   obtain ⟨t445, A41, H⟩ := bN H
   (try dsimp only at H)
   by_cases c42 : t445 = true
   rotate_left
   ·replace c42 := Bool.eq_false_iff.mpr c42
    subst c42
    have H1 : (none) = some r := by rw [if_neg (show ¬ (false = true) by decide)] at H; exact H
    clear H
    have H := H1
    clear H1
    exact absurd H (by simp)
   subst c42
   have H1 : (if t386 = 0 then ((withylaw11_Ref.f t388 t389 t390 t391 t392 t395).bind fun bt446 => ((withylaw11_Ref.f t361 t362 2 (⟨#[110]⟩ : ByteArray) t365 t368).bind fun bt456 => ((withyref11_Same.f kj3 bt446.1 bt446.2.1 bt446.2.2.1 bt446.2.2.2.1 bt446.2.2.2.2.1 bt446.2.2.2.2.2 bt456.1 bt456.2.1 bt456.2.2.1 bt456.2.2.2.1 bt456.2.2.2.2.1 bt456.2.2.2.2.2).bind fun t466 => (if t466 = true then (if t398 = 0 then (if t411 = 3 then ((inner_Route.f kj3 t346 t347 t348 t349 t350 t353 (⟨#[97]⟩ : ByteArray)).bind fun t467 => (if t467 = 0 then ((inner_Route.f kj3 t346 t347 t348 t349 t350 t353 (⟨#[109]⟩ : ByteArray)).bind fun t468 => (if t468 = 1 then ((inner_Route.f kj3 t346 t347 t348 t349 t350 t353 (⟨#[108, 255]⟩ : ByteArray)).bind fun t469 => (if t469 = 0 then (if t413.toList = ([99] : List UInt8) then (if t414.toList = ([109] : List UInt8) then (if t415 = true then (if t416.toList = ([109] : List UInt8) then (if t417.toList = ([] : List UInt8) then (if t418 = true then (none) else (if t419.toList = ([109] : List UInt8) then (if t420.toList = ([110] : List UInt8) then (if t421 = true then (if t424 = true then (none) else ((inner_May.f kj3 t346 t347 t348 t349 t350 t353 128).bind fun t470 => (if t470 = true then ((inner_May.f kj3 0 0 0 (⟨#[]⟩ : ByteArray) ([] : List Int) ([] : List ByteArray) 128).bind fun t471 => (if t471 = true then (none) else ((inner_Same.f kj3 t346 t347 t348 t349 t350 t353 t346 t347 t348 t349 t350 t353).bind fun t472 => (if t472 = true then ((inner_Same.f kj3 t346 t347 t348 t349 t350 t353 t361 t362 2 (⟨#[110]⟩ : ByteArray) t365 t368).bind fun t473 => (if t473 = true then (none) else ((inner_Size.f kj3 t346 t347 t348 t349 t350 t353).bind fun t474 => (some (t474 == 19))))) else (none))))) else (none)))) else (none)) else (none)) else (none))) else (none)) else (none)) else (none)) else (none)) else (none)) else (none))) else (none))) else (none))) else (none)) else (none)) else (none))))) else (none)) = some r := by rw [if_pos rfl] at H; exact H
   clear H
   have H := H1
   clear H1
   obtain ⟨c43, H⟩ := iN (c := t386 = 0) H
   have c43b0 := beq_iff_eq.mpr c43
   have c43b1 := bne_eq_false_iff_eq.mpr c43
   clear c43
   obtain ⟨⟨t446, t447, t448, t449, t450, t453⟩, A44, H⟩ := bN H
   (try dsimp only at H)
   obtain ⟨⟨t456, t457, t458, t459, t460, t463⟩, A45, H⟩ := bN H
   (try dsimp only at H)
   obtain ⟨t466, A46, H⟩ := bN H
   (try dsimp only at H)
   by_cases c47 : t466 = true
   rotate_left
   ·replace c47 := Bool.eq_false_iff.mpr c47
    subst c47
    have H1 : (none) = some r := by rw [if_neg (show ¬ (false = true) by decide)] at H; exact H
    clear H
    have H := H1
    clear H1
    exact absurd H (by simp)
   subst c47
   have H1 : (if t398 = 0 then (if t411 = 3 then ((inner_Route.f kj3 t346 t347 t348 t349 t350 t353 (⟨#[97]⟩ : ByteArray)).bind fun t467 => (if t467 = 0 then ((inner_Route.f kj3 t346 t347 t348 t349 t350 t353 (⟨#[109]⟩ : ByteArray)).bind fun t468 => (if t468 = 1 then ((inner_Route.f kj3 t346 t347 t348 t349 t350 t353 (⟨#[108, 255]⟩ : ByteArray)).bind fun t469 => (if t469 = 0 then (if t413.toList = ([99] : List UInt8) then (if t414.toList = ([109] : List UInt8) then (if t415 = true then (if t416.toList = ([109] : List UInt8) then (if t417.toList = ([] : List UInt8) then (if t418 = true then (none) else (if t419.toList = ([109] : List UInt8) then (if t420.toList = ([110] : List UInt8) then (if t421 = true then (if t424 = true then (none) else ((inner_May.f kj3 t346 t347 t348 t349 t350 t353 128).bind fun t470 => (if t470 = true then ((inner_May.f kj3 0 0 0 (⟨#[]⟩ : ByteArray) ([] : List Int) ([] : List ByteArray) 128).bind fun t471 => (if t471 = true then (none) else ((inner_Same.f kj3 t346 t347 t348 t349 t350 t353 t346 t347 t348 t349 t350 t353).bind fun t472 => (if t472 = true then ((inner_Same.f kj3 t346 t347 t348 t349 t350 t353 t361 t362 2 (⟨#[110]⟩ : ByteArray) t365 t368).bind fun t473 => (if t473 = true then (none) else ((inner_Size.f kj3 t346 t347 t348 t349 t350 t353).bind fun t474 => (some (t474 == 19))))) else (none))))) else (none)))) else (none)) else (none)) else (none))) else (none)) else (none)) else (none)) else (none)) else (none)) else (none))) else (none))) else (none))) else (none)) else (none)) = some r := by rw [if_pos rfl] at H; exact H
   clear H
   have H := H1
   clear H1
   obtain ⟨c48, H⟩ := iN (c := t398 = 0) H
   have c48b0 := beq_iff_eq.mpr c48
   have c48b1 := bne_eq_false_iff_eq.mpr c48
   clear c48
   obtain ⟨c49, H⟩ := iN (c := t411 = 3) H
   have c49b0 := beq_iff_eq.mpr c49
   have c49b1 := bne_eq_false_iff_eq.mpr c49
   clear c49
   obtain ⟨t467, A50, H⟩ := bN H
   (try dsimp only at H)
   obtain ⟨c51, H⟩ := iN (c := t467 = 0) H
   have c51b0 := beq_iff_eq.mpr c51
   have c51b1 := bne_eq_false_iff_eq.mpr c51
   clear c51
   obtain ⟨t468, A52, H⟩ := bN H
   (try dsimp only at H)
   obtain ⟨c53, H⟩ := iN (c := t468 = 1) H
   have c53b0 := beq_iff_eq.mpr c53
   have c53b1 := bne_eq_false_iff_eq.mpr c53
   clear c53
   obtain ⟨t469, A54, H⟩ := bN H
   (try dsimp only at H)
   obtain ⟨c55, H⟩ := iN (c := t469 = 0) H
   have c55b0 := beq_iff_eq.mpr c55
   have c55b1 := bne_eq_false_iff_eq.mpr c55
   clear c55
   obtain ⟨c56, H⟩ := iN (c := t413.toList = ([99] : List UInt8)) H
   have c56b0 := beq_iff_eq.mpr c56
   have c56b1 := bne_eq_false_iff_eq.mpr c56
   clear c56
   obtain ⟨c57, H⟩ := iN (c := t414.toList = ([109] : List UInt8)) H
   have c57b0 := beq_iff_eq.mpr c57
   have c57b1 := bne_eq_false_iff_eq.mpr c57
   clear c57
   by_cases c58 : t415 = true
   rotate_left
   ·replace c58 := Bool.eq_false_iff.mpr c58
    subst c58
    have H1 : (none) = some r := by rw [if_neg (show ¬ (false = true) by decide)] at H; exact H
    clear H
    have H := H1
    clear H1
    exact absurd H (by simp)
   subst c58
   have H1 : (if t416.toList = ([109] : List UInt8) then (if t417.toList = ([] : List UInt8) then (if t418 = true then (none) else (if t419.toList = ([109] : List UInt8) then (if t420.toList = ([110] : List UInt8) then (if t421 = true then (if t424 = true then (none) else ((inner_May.f kj3 t346 t347 t348 t349 t350 t353 128).bind fun t470 => (if t470 = true then ((inner_May.f kj3 0 0 0 (⟨#[]⟩ : ByteArray) ([] : List Int) ([] : List ByteArray) 128).bind fun t471 => (if t471 = true then (none) else ((inner_Same.f kj3 t346 t347 t348 t349 t350 t353 t346 t347 t348 t349 t350 t353).bind fun t472 => (if t472 = true then ((inner_Same.f kj3 t346 t347 t348 t349 t350 t353 t361 t362 2 (⟨#[110]⟩ : ByteArray) t365 t368).bind fun t473 => (if t473 = true then (none) else ((inner_Size.f kj3 t346 t347 t348 t349 t350 t353).bind fun t474 => (some (t474 == 19))))) else (none))))) else (none)))) else (none)) else (none)) else (none))) else (none)) else (none)) = some r := by rw [if_pos rfl] at H; exact H
   clear H
   have H := H1
   clear H1
   obtain ⟨c59, H⟩ := iN (c := t416.toList = ([109] : List UInt8)) H
   have c59b0 := beq_iff_eq.mpr c59
   have c59b1 := bne_eq_false_iff_eq.mpr c59
   clear c59
   obtain ⟨c60, H⟩ := iN (c := t417.toList = ([] : List UInt8)) H
   have c60b0 := beq_iff_eq.mpr c60
   have c60b1 := bne_eq_false_iff_eq.mpr c60
   clear c60
   by_cases c61 : t418 = true
   ·subst c61
    have H1 : (none) = some r := by rw [if_pos rfl] at H; exact H
    clear H
    have H := H1
    clear H1
    exact absurd H (by simp)
   replace c61 := Bool.eq_false_iff.mpr c61
   subst c61
   have H1 : (if t419.toList = ([109] : List UInt8) then (if t420.toList = ([110] : List UInt8) then (if t421 = true then (if t424 = true then (none) else ((inner_May.f kj3 t346 t347 t348 t349 t350 t353 128).bind fun t470 => (if t470 = true then ((inner_May.f kj3 0 0 0 (⟨#[]⟩ : ByteArray) ([] : List Int) ([] : List ByteArray) 128).bind fun t471 => (if t471 = true then (none) else ((inner_Same.f kj3 t346 t347 t348 t349 t350 t353 t346 t347 t348 t349 t350 t353).bind fun t472 => (if t472 = true then ((inner_Same.f kj3 t346 t347 t348 t349 t350 t353 t361 t362 2 (⟨#[110]⟩ : ByteArray) t365 t368).bind fun t473 => (if t473 = true then (none) else ((inner_Size.f kj3 t346 t347 t348 t349 t350 t353).bind fun t474 => (some (t474 == 19))))) else (none))))) else (none)))) else (none)) else (none)) else (none)) = some r := by rw [if_neg (show ¬ (false = true) by decide)] at H; exact H
   clear H
   have H := H1
   clear H1
   obtain ⟨c62, H⟩ := iN (c := t419.toList = ([109] : List UInt8)) H
   have c62b0 := beq_iff_eq.mpr c62
   have c62b1 := bne_eq_false_iff_eq.mpr c62
   clear c62
   obtain ⟨c63, H⟩ := iN (c := t420.toList = ([110] : List UInt8)) H
   have c63b0 := beq_iff_eq.mpr c63
   have c63b1 := bne_eq_false_iff_eq.mpr c63
   clear c63
   by_cases c64 : t421 = true
   rotate_left
   ·replace c64 := Bool.eq_false_iff.mpr c64
    subst c64
    have H1 : (none) = some r := by rw [if_neg (show ¬ (false = true) by decide)] at H; exact H
    clear H
    have H := H1
    clear H1
    exact absurd H (by simp)
   subst c64
   have H1 : (if t424 = true then (none) else ((inner_May.f kj3 t346 t347 t348 t349 t350 t353 128).bind fun t470 => (if t470 = true then ((inner_May.f kj3 0 0 0 (⟨#[]⟩ : ByteArray) ([] : List Int) ([] : List ByteArray) 128).bind fun t471 => (if t471 = true then (none) else ((inner_Same.f kj3 t346 t347 t348 t349 t350 t353 t346 t347 t348 t349 t350 t353).bind fun t472 => (if t472 = true then ((inner_Same.f kj3 t346 t347 t348 t349 t350 t353 t361 t362 2 (⟨#[110]⟩ : ByteArray) t365 t368).bind fun t473 => (if t473 = true then (none) else ((inner_Size.f kj3 t346 t347 t348 t349 t350 t353).bind fun t474 => (some (t474 == 19))))) else (none))))) else (none)))) = some r := by rw [if_pos rfl] at H; exact H
   clear H
   have H := H1
   clear H1
   by_cases c65 : t424 = true
   ·subst c65
    have H1 : (none) = some r := by rw [if_pos rfl] at H; exact H
    clear H
    have H := H1
    clear H1
    exact absurd H (by simp)
   replace c65 := Bool.eq_false_iff.mpr c65
   subst c65
   have H1 : ((inner_May.f kj3 t346 t347 t348 t349 t350 t353 128).bind fun t470 => (if t470 = true then ((inner_May.f kj3 0 0 0 (⟨#[]⟩ : ByteArray) ([] : List Int) ([] : List ByteArray) 128).bind fun t471 => (if t471 = true then (none) else ((inner_Same.f kj3 t346 t347 t348 t349 t350 t353 t346 t347 t348 t349 t350 t353).bind fun t472 => (if t472 = true then ((inner_Same.f kj3 t346 t347 t348 t349 t350 t353 t361 t362 2 (⟨#[110]⟩ : ByteArray) t365 t368).bind fun t473 => (if t473 = true then (none) else ((inner_Size.f kj3 t346 t347 t348 t349 t350 t353).bind fun t474 => (some (t474 == 19))))) else (none))))) else (none))) = some r := by rw [if_neg (show ¬ (false = true) by decide)] at H; exact H
   clear H
   have H := H1
   clear H1
   obtain ⟨t470, A66, H⟩ := bN H
   (try dsimp only at H)
   by_cases c67 : t470 = true
   rotate_left
   ·replace c67 := Bool.eq_false_iff.mpr c67
    subst c67
    have H1 : (none) = some r := by rw [if_neg (show ¬ (false = true) by decide)] at H; exact H
    clear H
    have H := H1
    clear H1
    exact absurd H (by simp)
   subst c67
   have H1 : ((inner_May.f kj3 0 0 0 (⟨#[]⟩ : ByteArray) ([] : List Int) ([] : List ByteArray) 128).bind fun t471 => (if t471 = true then (none) else ((inner_Same.f kj3 t346 t347 t348 t349 t350 t353 t346 t347 t348 t349 t350 t353).bind fun t472 => (if t472 = true then ((inner_Same.f kj3 t346 t347 t348 t349 t350 t353 t361 t362 2 (⟨#[110]⟩ : ByteArray) t365 t368).bind fun t473 => (if t473 = true then (none) else ((inner_Size.f kj3 t346 t347 t348 t349 t350 t353).bind fun t474 => (some (t474 == 19))))) else (none))))) = some r := by rw [if_pos rfl] at H; exact H
   clear H
   have H := H1
   clear H1
   obtain ⟨t471, A68, H⟩ := bN H
   (try dsimp only at H)
   by_cases c69 : t471 = true
   ·subst c69
    have H1 : (none) = some r := by rw [if_pos rfl] at H; exact H
    clear H
    have H := H1
    clear H1
    exact absurd H (by simp)
   replace c69 := Bool.eq_false_iff.mpr c69
   subst c69
   have H1 : ((inner_Same.f kj3 t346 t347 t348 t349 t350 t353 t346 t347 t348 t349 t350 t353).bind fun t472 => (if t472 = true then ((inner_Same.f kj3 t346 t347 t348 t349 t350 t353 t361 t362 2 (⟨#[110]⟩ : ByteArray) t365 t368).bind fun t473 => (if t473 = true then (none) else ((inner_Size.f kj3 t346 t347 t348 t349 t350 t353).bind fun t474 => (some (t474 == 19))))) else (none))) = some r := by rw [if_neg (show ¬ (false = true) by decide)] at H; exact H
   clear H
   have H := H1
   clear H1
   obtain ⟨t472, A70, H⟩ := bN H
   (try dsimp only at H)
   by_cases c71 : t472 = true
   rotate_left
   ·replace c71 := Bool.eq_false_iff.mpr c71
    subst c71
    have H1 : (none) = some r := by rw [if_neg (show ¬ (false = true) by decide)] at H; exact H
    clear H
    have H := H1
    clear H1
    exact absurd H (by simp)
   subst c71
   have H1 : ((inner_Same.f kj3 t346 t347 t348 t349 t350 t353 t361 t362 2 (⟨#[110]⟩ : ByteArray) t365 t368).bind fun t473 => (if t473 = true then (none) else ((inner_Size.f kj3 t346 t347 t348 t349 t350 t353).bind fun t474 => (some (t474 == 19))))) = some r := by rw [if_pos rfl] at H; exact H
   clear H
   have H := H1
   clear H1
   obtain ⟨t473, A72, H⟩ := bN H
   (try dsimp only at H)
   by_cases c73 : t473 = true
   ·subst c73
    have H1 : (none) = some r := by rw [if_pos rfl] at H; exact H
    clear H
    have H := H1
    clear H1
    exact absurd H (by simp)
   replace c73 := Bool.eq_false_iff.mpr c73
   subst c73
   have H1 : ((inner_Size.f kj3 t346 t347 t348 t349 t350 t353).bind fun t474 => (some (t474 == 19))) = some r := by rw [if_neg (show ¬ (false = true) by decide)] at H; exact H
   clear H
   have H := H1
   clear H1
   obtain ⟨t474, A74, H⟩ := bN H
   (try dsimp only at H)
   obtain rfl := Option.some.inj H
   have VC_357004 := as_ (Kd.V_mono (ok' := fun _ => True) (Kd.R_V (base' := wc.heap.size) HO_357004.out) (fun _ _ => trivial))
   have VC_357005 := as_ (Kd.V_mono (ok' := fun _ => True) (Kd.R_V (base' := wc.heap.size) HO_357005.out) (fun _ _ => trivial))
   have HZ0 := as_ (Below.refl wc.heap.size wc)
   clear HO_357004 HO_357005
   have GO50 : True := trivial
   have GO56 : True := trivial
   have GO76 : True := trivial
   go_wp2_with (first | ((with_reducible refine gate_callee (f := 53) rfl ?_); refine goesL_ (some 47) rfl rfl Tryz.func53 (by kernel_rfl) rfl #[] rfl aO ?_; (with_reducible refine (withylaw11_two.calls  t361 t362 t363 t364 t365 t368 _ A15.out).mono ?_); rintro e w75 ⟨v366, v369, rfl, ho0, ho1, hb⟩; refine ⟨_, rfl, ?_⟩; have VC367 := as_ (Kd.V_mono (ok' := fun _ => True) (Kd.R_V (base' := w75.heap.size) ho0) (fun _ _ => trivial)); have VC370 := as_ (Kd.V_mono (ok' := fun _ => True) (Kd.R_V (base' := w75.heap.size) ho1) (fun _ _ => trivial)); replace BK356 := bb BK356 hb; replace HB := as_ (below_step (w := w) bA hb); replace HZ0 := as_ (below_step (w := wc) z0 hb); have HZ1 := as_ (Below.refl w75.heap.size w75); (try clear hb); (try clear ho0); (try clear ho1)) | ((with_reducible refine gate_dst (N := 6) rfl ?_); (try (refine gate_guard (by rfl) ?_; dsimp only)); refine box_event ?hg (N := 6) ?hd (cs := #[.int .i64 0, .int .i64 0, .int .i64 0, .string (⟨#[]⟩ : ByteArray), .slice none 0 0, .slice none 0 0]) (t := 25) ?hr ?_; (case hd => rfl); (case hg => rfl); (case hr => first | (go_simp; done) | (go_simp; rfl)); intro gb371 hg w76 hbox hb; have BK371 := as_ (hbox); have GW371 := gw (w := w) hg bA; have GE371 := gw (w := w) hg bA; have GZ0_371 := gw (w := wc) hg z0; have GZ1_371 := gw (w := w75) hg z1; have NB356_371 := nl BK356 hg; have NB371_356 := ng BK356 hg; replace BK356 := bb BK356 hb; replace HB := as_ (below_step (w := w) bA hb); replace HZ0 := as_ (below_step (w := wc) z0 hb); replace HZ1 := as_ (below_step (w := w75) z1 hb); clear hb hbox hg; have hnb77 := NB371_356.out; have hnc77 := NB356_371.out; obtain ⟨hcz78_0, hcz78_1, hcz78_2, hcz78_3, hcz78_4, hcz78_5⟩ := zc6 BK371; obtain ⟨hfz78_0, hfz78_1, hfz78_2, hfz78_3, hfz78_4, hfz78_5⟩ := zf6 BK371; obtain ⟨Ao79, co79, eo79⟩ := Kd.V_slice VC367.out; subst eo79; obtain ⟨Ao80, co80, eo80⟩ := Kd.V_slice VC370.out; subst eo80) | ((with_reducible refine gate_dst (N := 50) rfl ?_); clear GO50; refine box_gen (C := fun W_ => Below w.heap.size w W_ ∧ Below wc.heap.size wc W_ ∧ Below w75.heap.size w75 W_ ∧ W_.heap[gb356]? = some (.cells #[.int .i64 t346, .int .i64 t347, .int .i64 t348, .string t349, .slice Ao8 t350.length co8, .slice Ao9 t353.length co9] 25 (0, 0)) ∧ W_.heap[gb371]? = some (.cells #[.int .i64 t361, .int .i64 t362, .int .i64 2, .string t364, .slice Ao79 t365.length co79, .slice Ao80 t368.length co80] 25 (0, 0))) ⟨bA, z0, z1, (by refine bx ?_; refine blk_far ?_ NB356_371.out _; refine bx ?_; refine blk_far ?_ NB356_371.out _; refine bx ?_; refine blk_far ?_ NB356_371.out _; refine bx ?_; refine blk_far ?_ NB356_371.out _; refine bx ?_; refine blk_far ?_ NB356_371.out _; refine bx ?_; refine blk_far ?_ NB356_371.out _; refine bx ?_; refine blk_far ?_ NB356_371.out _; refine bx ?_; exact BK356.out), (by refine bx ?_; refine blk_put (cs := #[.int .i64 t361, .int .i64 t362, .int .i64 t363, .string t364, .slice Ao79 t365.length co79, .slice Ao80 t368.length co80]) ?_ 2 _ rfl; refine bx ?_; refine blk_put (cs := #[.int .i64 t361, .int .i64 t362, .int .i64 t363, .string t364, .slice Ao79 t365.length co79, .slice none 0 0]) ?_ 5 _ rfl; refine bx ?_; refine blk_put (cs := #[.int .i64 t361, .int .i64 t362, .int .i64 t363, .string t364, .slice none 0 0, .slice none 0 0]) ?_ 4 _ rfl; refine bx ?_; refine blk_put (cs := #[.int .i64 t361, .int .i64 t362, .int .i64 t363, .string (⟨#[]⟩ : ByteArray), .slice none 0 0, .slice none 0 0]) ?_ 3 _ rfl; refine bx ?_; refine blk_put (cs := #[.int .i64 t361, .int .i64 t362, .int .i64 0, .string (⟨#[]⟩ : ByteArray), .slice none 0 0, .slice none 0 0]) ?_ 2 _ rfl; refine bx ?_; refine blk_put (cs := #[.int .i64 t361, .int .i64 0, .int .i64 0, .string (⟨#[]⟩ : ByteArray), .slice none 0 0, .slice none 0 0]) ?_ 1 _ rfl; refine bx ?_; refine blk_put (cs := #[.int .i64 0, .int .i64 0, .int .i64 0, .string (⟨#[]⟩ : ByteArray), .slice none 0 0, .slice none 0 0]) ?_ 0 _ rfl; refine bx ?_; exact BK371.out)⟩ (fun wg50 hC => ?_); obtain ⟨hB_, hz0_, hz1_, hBK356_, hBK371_⟩ := hC; replace HB := as_ hB_; replace HZ0 := as_ hz0_; replace HZ1 := as_ hz1_; replace BK356 := as_ hBK356_; replace BK371 := as_ hBK371_; clear hB_ hz0_ hz1_ hBK356_ hBK371_; obtain ⟨gcz50_0, gcz50_1, gcz50_2, gcz50_3, gcz50_4, gcz50_5⟩ := zc6 BK371; obtain ⟨gfz50_0, gfz50_1, gfz50_2, gfz50_3, gfz50_4, gfz50_5⟩ := zf6 BK371) | ((with_reducible refine gate_callee (f := 10) rfl ?_); refine goesL_ (some 51) rfl rfl Tryz.func10 (by kernel_rfl) rfl #[.agg #[.int .i64 t361, .int .i64 t362, .int .i64 2, .string t364, .slice Ao79 t365.length co79, .slice Ao80 t368.length co80], .int .i64 128] rfl aO ?_; (with_reducible refine (inner_Encode.calls kj3 t361 t362 2 t364 _ _ t365 _ _ t368 128 t372 t373 _ ?side1 ?side2 ?side3 ?side4 A16.out).mono ?_); (case side1 => exact Kd.C_below (Kd.V_reads' VC367.out).2.2 z1); (case side2 => exact (Kd.V_reads' VC367.out).2.1); (case side3 => exact Kd.C_below (Kd.V_reads' VC370.out).2.2 z1); (case side4 => exact (Kd.V_reads' VC370.out).2.1); rintro e w81 ⟨rfl, hb⟩; refine ⟨_, rfl, ?_⟩; replace BK356 := as_ (blk_below (g := gb356) (o := .cells #[.int .i64 t346, .int .i64 t347, .int .i64 t348, .string t349, .slice Ao8 t350.length co8, .slice Ao9 t353.length co9] 25 (0, 0)) (bk BK356) hb); replace BK371 := as_ (blk_below (g := gb371) (o := .cells #[.int .i64 t361, .int .i64 t362, .int .i64 2, .string t364, .slice Ao79 t365.length co79, .slice Ao80 t368.length co80] 25 (0, 0)) (bk BK371) hb); replace HB := as_ (below_step (w := w) bA hb); replace HZ0 := as_ (below_step (w := wc) z0 hb); replace HZ1 := as_ (below_step (w := w75) z1 hb); (try clear hb); obtain ⟨hcz82_0, hcz82_1, hcz82_2, hcz82_3, hcz82_4, hcz82_5⟩ := zc6 BK371; obtain ⟨hfz82_0, hfz82_1, hfz82_2, hfz82_3, hfz82_4, hfz82_5⟩ := zf6 BK371) | ((with_reducible refine gate_dst (N := 56) rfl ?_); clear GO56; refine box_gen (C := fun W_ => Below w.heap.size w W_ ∧ Below wc.heap.size wc W_ ∧ Below w75.heap.size w75 W_ ∧ W_.heap[gb356]? = some (.cells #[.int .i64 t346, .int .i64 t347, .int .i64 t348, .string t349, .slice Ao8 t350.length co8, .slice Ao9 t353.length co9] 25 (0, 0)) ∧ W_.heap[gb371]? = some (.cells #[.int .i64 t361, .int .i64 t362, .int .i64 2, .string (⟨#[110]⟩ : ByteArray), .slice Ao79 t365.length co79, .slice Ao80 t368.length co80] 25 (0, 0))) ⟨bA, z0, z1, (by refine bx ?_; refine blk_far ?_ NB356_371.out _; refine bx ?_; exact BK356.out), (by refine bx ?_; refine blk_put (cs := #[.int .i64 t361, .int .i64 t362, .int .i64 2, .string t364, .slice Ao79 t365.length co79, .slice Ao80 t368.length co80]) ?_ 3 _ rfl; refine bx ?_; exact BK371.out)⟩ (fun wg56 hC => ?_); obtain ⟨hB_, hz0_, hz1_, hBK356_, hBK371_⟩ := hC; replace HB := as_ hB_; replace HZ0 := as_ hz0_; replace HZ1 := as_ hz1_; replace BK356 := as_ hBK356_; replace BK371 := as_ hBK371_; clear hB_ hz0_ hz1_ hBK356_ hBK371_; obtain ⟨gcz56_0, gcz56_1, gcz56_2, gcz56_3, gcz56_4, gcz56_5⟩ := zc6 BK371; obtain ⟨gfz56_0, gfz56_1, gfz56_2, gfz56_3, gfz56_4, gfz56_5⟩ := zf6 BK371) | ((with_reducible refine gate_callee (f := 10) rfl ?_); refine goesL_ (some 57) rfl rfl Tryz.func10 (by kernel_rfl) rfl #[.agg #[.int .i64 t361, .int .i64 t362, .int .i64 2, .string (⟨#[110]⟩ : ByteArray), .slice Ao79 t365.length co79, .slice Ao80 t368.length co80], .int .i64 128] rfl aO ?_; (with_reducible refine (inner_Encode.calls kj3 t361 t362 2 (⟨#[110]⟩ : ByteArray) _ _ t365 _ _ t368 128 t374 t375 _ ?side1 ?side2 ?side3 ?side4 A17.out).mono ?_); (case side1 => exact Kd.C_below (Kd.V_reads' VC367.out).2.2 z1); (case side2 => exact (Kd.V_reads' VC367.out).2.1); (case side3 => exact Kd.C_below (Kd.V_reads' VC370.out).2.2 z1); (case side4 => exact (Kd.V_reads' VC370.out).2.1); rintro e w83 ⟨rfl, hb⟩; refine ⟨_, rfl, ?_⟩; replace BK356 := as_ (blk_below (g := gb356) (o := .cells #[.int .i64 t346, .int .i64 t347, .int .i64 t348, .string t349, .slice Ao8 t350.length co8, .slice Ao9 t353.length co9] 25 (0, 0)) (bk BK356) hb); replace BK371 := as_ (blk_below (g := gb371) (o := .cells #[.int .i64 t361, .int .i64 t362, .int .i64 2, .string (⟨#[110]⟩ : ByteArray), .slice Ao79 t365.length co79, .slice Ao80 t368.length co80] 25 (0, 0)) (bk BK371) hb); replace HB := as_ (below_step (w := w) bA hb); replace HZ0 := as_ (below_step (w := wc) z0 hb); replace HZ1 := as_ (below_step (w := w75) z1 hb); (try clear hb); (try clear hi)) | ((with_reducible refine gate_callee (f := 13) rfl ?_); refine goesL_ (some 62) rfl rfl Tryz.func13 (by kernel_rfl) rfl #[.string t357] rfl aO ?_; (with_reducible refine (inner_Decode.calls kj3 t357 t376 t377 t378 t379 t380 t383 t386 _ A18.out).mono ?_); rintro e w84 ⟨v381, v384, rfl, ho0, ho1, hb⟩; clear A18; refine ⟨_, rfl, ?_⟩; have VC382 := as_ (Kd.V_mono (ok' := fun _ => True) (Kd.R_V (base' := w84.heap.size) ho0) (fun _ _ => trivial)); have VC385 := as_ (Kd.V_mono (ok' := fun _ => True) ho1 (fun _ _ => trivial)); replace BK356 := bb BK356 hb; replace BK371 := as_ (blk_below (g := gb371) (o := .cells #[.int .i64 t361, .int .i64 t362, .int .i64 2, .string (⟨#[110]⟩ : ByteArray), .slice Ao79 t365.length co79, .slice Ao80 t368.length co80] 25 (0, 0)) (bk BK371) hb); replace HB := as_ (below_step (w := w) bA hb); replace HZ0 := as_ (below_step (w := wc) z0 hb); replace HZ1 := as_ (below_step (w := w75) z1 hb); have HZ2 := as_ (Below.refl w84.heap.size w84); (try clear hb); (try clear ho0); (try clear ho1)) | ((with_reducible refine gate_dst (N := 11) rfl ?_); (try (refine gate_guard (by rfl) ?_; dsimp only)); refine box_event ?hg (N := 11) ?hd (cs := #[.int .i64 0, .int .i64 0, .int .i64 0, .string (⟨#[]⟩ : ByteArray), .slice none 0 0, .slice none 0 0]) (t := 25) ?hr ?_; (case hd => rfl); (case hg => rfl); (case hr => first | (go_simp; done) | (go_simp; rfl)); intro gb387 hg w85 hbox hb; have BK387 := as_ (hbox); have GW387 := gw (w := w) hg bA; have GE387 := gw (w := w) hg bA; have GZ0_387 := gw (w := wc) hg z0; have GZ1_387 := gw (w := w75) hg z1; have GZ2_387 := gw (w := w84) hg z2; have NB356_387 := nl BK356 hg; have NB387_356 := ng BK356 hg; have NB371_387 := as_ ((by rw [hg]; exact Nat.ne_of_lt (blk_lt (g := gb371) (o := .cells #[.int .i64 t361, .int .i64 t362, .int .i64 2, .string (⟨#[110]⟩ : ByteArray), .slice Ao79 t365.length co79, .slice Ao80 t368.length co80] 25 (0, 0)) (bk BK371)) : gb371 ≠ gb387)); have NB387_371 := as_ ((by rw [hg]; exact Nat.ne_of_gt (blk_lt (g := gb371) (o := .cells #[.int .i64 t361, .int .i64 t362, .int .i64 2, .string (⟨#[110]⟩ : ByteArray), .slice Ao79 t365.length co79, .slice Ao80 t368.length co80] 25 (0, 0)) (bk BK371)) : gb387 ≠ gb371)); replace BK356 := bb BK356 hb; replace BK371 := as_ (blk_below (g := gb371) (o := .cells #[.int .i64 t361, .int .i64 t362, .int .i64 2, .string (⟨#[110]⟩ : ByteArray), .slice Ao79 t365.length co79, .slice Ao80 t368.length co80] 25 (0, 0)) (bk BK371) hb); replace HB := as_ (below_step (w := w) bA hb); replace HZ0 := as_ (below_step (w := wc) z0 hb); replace HZ1 := as_ (below_step (w := w75) z1 hb); replace HZ2 := as_ (below_step (w := w84) z2 hb); clear hb hbox hg; have hnb86 := NB387_356.out; have hnc86 := NB356_387.out; have hnb87 := NB387_371.out; have hnc87 := NB371_387.out; obtain ⟨hcz88_0, hcz88_1, hcz88_2, hcz88_3, hcz88_4, hcz88_5⟩ := zc6 BK387; obtain ⟨hfz88_0, hfz88_1, hfz88_2, hfz88_3, hfz88_4, hfz88_5⟩ := zf6 BK387; obtain ⟨Ao89, co89, eo89⟩ := Kd.V_slice VC382.out; subst eo89; obtain ⟨Ao90, co90, eo90⟩ := Kd.V_slice VC385.out; subst eo90) | ((with_reducible refine gate_callee (f := 13) rfl ?_); refine goesL_ (some 67) rfl rfl Tryz.func13 (by kernel_rfl) rfl #[.string t374] rfl aO ?_; (with_reducible refine (inner_Decode.calls kj3 t374 t388 t389 t390 t391 t392 t395 t398 _ A19.out).mono ?_); rintro e w91 ⟨v393, v396, rfl, ho0, ho1, hb⟩; clear A19; refine ⟨_, rfl, ?_⟩; have VC394 := as_ (Kd.V_mono (ok' := fun _ => True) (Kd.R_V (base' := w91.heap.size) ho0) (fun _ _ => trivial)); have VC397 := as_ (Kd.V_mono (ok' := fun _ => True) ho1 (fun _ _ => trivial)); replace BK356 := as_ (blk_below (g := gb356) (o := .cells #[.int .i64 t346, .int .i64 t347, .int .i64 t348, .string t349, .slice Ao8 t350.length co8, .slice Ao9 t353.length co9] 25 (0, 0)) (by refine bx ?_; refine blk_far ?_ NB356_387.out _; refine bx ?_; refine blk_far ?_ NB356_387.out _; refine bx ?_; refine blk_far ?_ NB356_387.out _; refine bx ?_; refine blk_far ?_ NB356_387.out _; refine bx ?_; refine blk_far ?_ NB356_387.out _; refine bx ?_; refine blk_far ?_ NB356_387.out _; refine bx ?_; exact BK356.out) hb); replace BK371 := as_ (blk_below (g := gb371) (o := .cells #[.int .i64 t361, .int .i64 t362, .int .i64 2, .string (⟨#[110]⟩ : ByteArray), .slice Ao79 t365.length co79, .slice Ao80 t368.length co80] 25 (0, 0)) (by refine bx ?_; refine blk_far ?_ NB371_387.out _; refine bx ?_; refine blk_far ?_ NB371_387.out _; refine bx ?_; refine blk_far ?_ NB371_387.out _; refine bx ?_; refine blk_far ?_ NB371_387.out _; refine bx ?_; refine blk_far ?_ NB371_387.out _; refine bx ?_; refine blk_far ?_ NB371_387.out _; refine bx ?_; exact BK371.out) hb); replace BK387 := as_ (blk_below (g := gb387) (o := .cells #[.int .i64 t376, .int .i64 t377, .int .i64 t378, .string t379, .slice Ao89 t380.length co89, .slice Ao90 t383.length co90] 25 (0, 0)) (by refine bx ?_; refine blk_put (cs := #[.int .i64 t376, .int .i64 t377, .int .i64 t378, .string t379, .slice Ao89 t380.length co89, .slice none 0 0]) ?_ 5 _ rfl; refine bx ?_; refine blk_put (cs := #[.int .i64 t376, .int .i64 t377, .int .i64 t378, .string t379, .slice none 0 0, .slice none 0 0]) ?_ 4 _ rfl; refine bx ?_; refine blk_put (cs := #[.int .i64 t376, .int .i64 t377, .int .i64 t378, .string (⟨#[]⟩ : ByteArray), .slice none 0 0, .slice none 0 0]) ?_ 3 _ rfl; refine bx ?_; refine blk_put (cs := #[.int .i64 t376, .int .i64 t377, .int .i64 0, .string (⟨#[]⟩ : ByteArray), .slice none 0 0, .slice none 0 0]) ?_ 2 _ rfl; refine bx ?_; refine blk_put (cs := #[.int .i64 t376, .int .i64 0, .int .i64 0, .string (⟨#[]⟩ : ByteArray), .slice none 0 0, .slice none 0 0]) ?_ 1 _ rfl; refine bx ?_; refine blk_put (cs := #[.int .i64 0, .int .i64 0, .int .i64 0, .string (⟨#[]⟩ : ByteArray), .slice none 0 0, .slice none 0 0]) ?_ 0 _ rfl; refine bx ?_; exact BK387.out) hb); replace HB := as_ (below_step (w := w) bA hb); replace HZ0 := as_ (below_step (w := wc) z0 hb); replace HZ1 := as_ (below_step (w := w75) z1 hb); replace HZ2 := as_ (below_step (w := w84) z2 hb); have HZ3 := as_ (Below.refl w91.heap.size w91); (try clear hb); (try clear ho0); (try clear ho1)) | ((with_reducible refine gate_dst (N := 13) rfl ?_); (try (refine gate_guard (by rfl) ?_; dsimp only)); refine box_event ?hg (N := 13) ?hd (cs := #[.int .i64 0, .int .i64 0, .int .i64 0, .string (⟨#[]⟩ : ByteArray), .slice none 0 0, .slice none 0 0]) (t := 25) ?hr ?_; (case hd => rfl); (case hg => rfl); (case hr => first | (go_simp; done) | (go_simp; rfl)); intro gb399 hg w92 hbox hb; have BK399 := as_ (hbox); have GW399 := gw (w := w) hg bA; have GE399 := gw (w := w) hg bA; have GZ0_399 := gw (w := wc) hg z0; have GZ1_399 := gw (w := w75) hg z1; have GZ2_399 := gw (w := w84) hg z2; have GZ3_399 := gw (w := w91) hg z3; have NB356_399 := nl BK356 hg; have NB399_356 := ng BK356 hg; have NB371_399 := as_ ((by rw [hg]; exact Nat.ne_of_lt (blk_lt (g := gb371) (o := .cells #[.int .i64 t361, .int .i64 t362, .int .i64 2, .string (⟨#[110]⟩ : ByteArray), .slice Ao79 t365.length co79, .slice Ao80 t368.length co80] 25 (0, 0)) (bk BK371)) : gb371 ≠ gb399)); have NB399_371 := as_ ((by rw [hg]; exact Nat.ne_of_gt (blk_lt (g := gb371) (o := .cells #[.int .i64 t361, .int .i64 t362, .int .i64 2, .string (⟨#[110]⟩ : ByteArray), .slice Ao79 t365.length co79, .slice Ao80 t368.length co80] 25 (0, 0)) (bk BK371)) : gb399 ≠ gb371)); have NB387_399 := nl BK387 hg; have NB399_387 := ng BK387 hg; replace BK356 := bb BK356 hb; replace BK371 := as_ (blk_below (g := gb371) (o := .cells #[.int .i64 t361, .int .i64 t362, .int .i64 2, .string (⟨#[110]⟩ : ByteArray), .slice Ao79 t365.length co79, .slice Ao80 t368.length co80] 25 (0, 0)) (bk BK371) hb); replace BK387 := bb BK387 hb; replace HB := as_ (below_step (w := w) bA hb); replace HZ0 := as_ (below_step (w := wc) z0 hb); replace HZ1 := as_ (below_step (w := w75) z1 hb); replace HZ2 := as_ (below_step (w := w84) z2 hb); replace HZ3 := as_ (below_step (w := w91) z3 hb); clear hb hbox hg; have hnb93 := NB399_356.out; have hnc93 := NB356_399.out; have hnb94 := NB399_371.out; have hnc94 := NB371_399.out; have hnb95 := NB399_387.out; have hnc95 := NB387_399.out; obtain ⟨hcz96_0, hcz96_1, hcz96_2, hcz96_3, hcz96_4, hcz96_5⟩ := zc6 BK399; obtain ⟨hfz96_0, hfz96_1, hfz96_2, hfz96_3, hfz96_4, hfz96_5⟩ := zf6 BK399; obtain ⟨Ao97, co97, eo97⟩ := Kd.V_slice VC394.out; subst eo97; obtain ⟨Ao98, co98, eo98⟩ := Kd.V_slice VC397.out; subst eo98) | ((with_reducible refine gate_callee (f := 30) rfl ?_); refine goesL_ (some 71) rfl rfl Tryz.func30 (by kernel_rfl) rfl #[.int .u8 0, .int .i64 128] rfl aO ?_; (with_reducible refine (withyref01_Repeat.calls kj3 0 128 t400 _ A20.out).mono ?_); rintro e w99 ⟨rfl, hb⟩; refine ⟨_, rfl, ?_⟩; replace BK356 := as_ (blk_below (g := gb356) (o := .cells #[.int .i64 t346, .int .i64 t347, .int .i64 t348, .string t349, .slice Ao8 t350.length co8, .slice Ao9 t353.length co9] 25 (0, 0)) (by refine bx ?_; refine blk_far ?_ NB356_399.out _; refine bx ?_; refine blk_far ?_ NB356_399.out _; refine bx ?_; refine blk_far ?_ NB356_399.out _; refine bx ?_; refine blk_far ?_ NB356_399.out _; refine bx ?_; refine blk_far ?_ NB356_399.out _; refine bx ?_; refine blk_far ?_ NB356_399.out _; refine bx ?_; exact BK356.out) hb); replace BK371 := as_ (blk_below (g := gb371) (o := .cells #[.int .i64 t361, .int .i64 t362, .int .i64 2, .string (⟨#[110]⟩ : ByteArray), .slice Ao79 t365.length co79, .slice Ao80 t368.length co80] 25 (0, 0)) (by refine bx ?_; refine blk_far ?_ NB371_399.out _; refine bx ?_; refine blk_far ?_ NB371_399.out _; refine bx ?_; refine blk_far ?_ NB371_399.out _; refine bx ?_; refine blk_far ?_ NB371_399.out _; refine bx ?_; refine blk_far ?_ NB371_399.out _; refine bx ?_; refine blk_far ?_ NB371_399.out _; refine bx ?_; exact BK371.out) hb); replace BK387 := as_ (blk_below (g := gb387) (o := .cells #[.int .i64 t376, .int .i64 t377, .int .i64 t378, .string t379, .slice Ao89 t380.length co89, .slice Ao90 t383.length co90] 25 (0, 0)) (by refine bx ?_; refine blk_far ?_ NB387_399.out _; refine bx ?_; refine blk_far ?_ NB387_399.out _; refine bx ?_; refine blk_far ?_ NB387_399.out _; refine bx ?_; refine blk_far ?_ NB387_399.out _; refine bx ?_; refine blk_far ?_ NB387_399.out _; refine bx ?_; refine blk_far ?_ NB387_399.out _; refine bx ?_; exact BK387.out) hb); replace BK399 := as_ (blk_below (g := gb399) (o := .cells #[.int .i64 t388, .int .i64 t389, .int .i64 t390, .string t391, .slice Ao97 t392.length co97, .slice Ao98 t395.length co98] 25 (0, 0)) (by refine bx ?_; refine blk_put (cs := #[.int .i64 t388, .int .i64 t389, .int .i64 t390, .string t391, .slice Ao97 t392.length co97, .slice none 0 0]) ?_ 5 _ rfl; refine bx ?_; refine blk_put (cs := #[.int .i64 t388, .int .i64 t389, .int .i64 t390, .string t391, .slice none 0 0, .slice none 0 0]) ?_ 4 _ rfl; refine bx ?_; refine blk_put (cs := #[.int .i64 t388, .int .i64 t389, .int .i64 t390, .string (⟨#[]⟩ : ByteArray), .slice none 0 0, .slice none 0 0]) ?_ 3 _ rfl; refine bx ?_; refine blk_put (cs := #[.int .i64 t388, .int .i64 t389, .int .i64 0, .string (⟨#[]⟩ : ByteArray), .slice none 0 0, .slice none 0 0]) ?_ 2 _ rfl; refine bx ?_; refine blk_put (cs := #[.int .i64 t388, .int .i64 0, .int .i64 0, .string (⟨#[]⟩ : ByteArray), .slice none 0 0, .slice none 0 0]) ?_ 1 _ rfl; refine bx ?_; refine blk_put (cs := #[.int .i64 0, .int .i64 0, .int .i64 0, .string (⟨#[]⟩ : ByteArray), .slice none 0 0, .slice none 0 0]) ?_ 0 _ rfl; refine bx ?_; exact BK399.out) hb); replace HB := as_ (below_step (w := w) bA hb); replace HZ0 := as_ (below_step (w := wc) z0 hb); replace HZ1 := as_ (below_step (w := w75) z1 hb); replace HZ2 := as_ (below_step (w := w84) z2 hb); replace HZ3 := as_ (below_step (w := w91) z3 hb); (try clear hb); (try clear hi)) | ((with_reducible refine gate_callee (f := 13) rfl ?_); refine goesL_ (some 72) rfl rfl Tryz.func13 (by kernel_rfl) rfl #[.string t400] rfl aO ?_; (with_reducible refine (inner_Decode.calls kj3 t400 t401 t402 t403 t404 t405 t408 t411 _ A21.out).mono ?_); rintro e w100 ⟨v406, v409, rfl, ho0, ho1, hb⟩; clear A21; refine ⟨_, rfl, ?_⟩; have VC407 := as_ (Kd.V_mono (ok' := fun _ => True) (Kd.R_V (base' := w100.heap.size) ho0) (fun _ _ => trivial)); have VC410 := as_ (Kd.V_mono (ok' := fun _ => True) ho1 (fun _ _ => trivial)); replace BK356 := bb BK356 hb; replace BK371 := as_ (blk_below (g := gb371) (o := .cells #[.int .i64 t361, .int .i64 t362, .int .i64 2, .string (⟨#[110]⟩ : ByteArray), .slice Ao79 t365.length co79, .slice Ao80 t368.length co80] 25 (0, 0)) (bk BK371) hb); replace BK387 := bb BK387 hb; replace BK399 := bb BK399 hb; replace HB := as_ (below_step (w := w) bA hb); replace HZ0 := as_ (below_step (w := wc) z0 hb); replace HZ1 := as_ (below_step (w := w75) z1 hb); replace HZ2 := as_ (below_step (w := w84) z2 hb); replace HZ3 := as_ (below_step (w := w91) z3 hb); have HZ4 := as_ (Below.refl w100.heap.size w100); (try clear hb); (try clear ho0); (try clear ho1)) | ((with_reducible refine gate_dst (N := 15) rfl ?_); (try (refine gate_guard (by rfl) ?_; dsimp only)); refine box_event ?hg (N := 15) ?hd (cs := #[.int .i64 0, .int .i64 0, .int .i64 0, .string (⟨#[]⟩ : ByteArray), .slice none 0 0, .slice none 0 0]) (t := 25) ?hr ?_; (case hd => rfl); (case hg => rfl); (case hr => first | (go_simp; done) | (go_simp; rfl)); intro gb412 hg w101 hbox hb; have BK412 := as_ (hbox); have GW412 := gw (w := w) hg bA; have GE412 := gw (w := w) hg bA; have GZ0_412 := gw (w := wc) hg z0; have GZ1_412 := gw (w := w75) hg z1; have GZ2_412 := gw (w := w84) hg z2; have GZ3_412 := gw (w := w91) hg z3; have GZ4_412 := gw (w := w100) hg z4; have NB356_412 := nl BK356 hg; have NB412_356 := ng BK356 hg; have NB371_412 := as_ ((by rw [hg]; exact Nat.ne_of_lt (blk_lt (g := gb371) (o := .cells #[.int .i64 t361, .int .i64 t362, .int .i64 2, .string (⟨#[110]⟩ : ByteArray), .slice Ao79 t365.length co79, .slice Ao80 t368.length co80] 25 (0, 0)) (bk BK371)) : gb371 ≠ gb412)); have NB412_371 := as_ ((by rw [hg]; exact Nat.ne_of_gt (blk_lt (g := gb371) (o := .cells #[.int .i64 t361, .int .i64 t362, .int .i64 2, .string (⟨#[110]⟩ : ByteArray), .slice Ao79 t365.length co79, .slice Ao80 t368.length co80] 25 (0, 0)) (bk BK371)) : gb412 ≠ gb371)); have NB387_412 := nl BK387 hg; have NB412_387 := ng BK387 hg; have NB399_412 := nl BK399 hg; have NB412_399 := ng BK399 hg; replace BK356 := bb BK356 hb; replace BK371 := as_ (blk_below (g := gb371) (o := .cells #[.int .i64 t361, .int .i64 t362, .int .i64 2, .string (⟨#[110]⟩ : ByteArray), .slice Ao79 t365.length co79, .slice Ao80 t368.length co80] 25 (0, 0)) (bk BK371) hb); replace BK387 := bb BK387 hb; replace BK399 := bb BK399 hb; replace HB := as_ (below_step (w := w) bA hb); replace HZ0 := as_ (below_step (w := wc) z0 hb); replace HZ1 := as_ (below_step (w := w75) z1 hb); replace HZ2 := as_ (below_step (w := w84) z2 hb); replace HZ3 := as_ (below_step (w := w91) z3 hb); replace HZ4 := as_ (below_step (w := w100) z4 hb); clear hb hbox hg; have hnb102 := NB412_356.out; have hnc102 := NB356_412.out; have hnb103 := NB412_371.out; have hnc103 := NB371_412.out; have hnb104 := NB412_387.out; have hnc104 := NB387_412.out; have hnb105 := NB412_399.out; have hnc105 := NB399_412.out; obtain ⟨hcz106_0, hcz106_1, hcz106_2, hcz106_3, hcz106_4, hcz106_5⟩ := zc6 BK412; obtain ⟨hfz106_0, hfz106_1, hfz106_2, hfz106_3, hfz106_4, hfz106_5⟩ := zf6 BK412; obtain ⟨Ao107, co107, eo107⟩ := Kd.V_slice VC407.out; subst eo107; obtain ⟨Ao108, co108, eo108⟩ := Kd.V_slice VC410.out; subst eo108; obtain ⟨hcz109_0, hcz109_1, hcz109_2, hcz109_3, hcz109_4, hcz109_5⟩ := zc6 BK356; obtain ⟨hfz109_0, hfz109_1, hfz109_2, hfz109_3, hfz109_4, hfz109_5⟩ := zf6 BK356) | ((with_reducible refine gate_dst (N := 76) rfl ?_); clear GO76; refine box_gen (C := fun W_ => Below w.heap.size w W_ ∧ Below wc.heap.size wc W_ ∧ Below w75.heap.size w75 W_ ∧ Below w84.heap.size w84 W_ ∧ Below w91.heap.size w91 W_ ∧ Below w100.heap.size w100 W_ ∧ W_.heap[gb356]? = some (.cells #[.int .i64 t346, .int .i64 t347, .int .i64 t348, .string t349, .slice Ao8 t350.length co8, .slice Ao9 t353.length co9] 25 (0, 0)) ∧ W_.heap[gb371]? = some (.cells #[.int .i64 t361, .int .i64 t362, .int .i64 2, .string (⟨#[110]⟩ : ByteArray), .slice Ao79 t365.length co79, .slice Ao80 t368.length co80] 25 (0, 0)) ∧ W_.heap[gb387]? = some (.cells #[.int .i64 t376, .int .i64 t377, .int .i64 t378, .string t379, .slice Ao89 t380.length co89, .slice Ao90 t383.length co90] 25 (0, 0)) ∧ W_.heap[gb399]? = some (.cells #[.int .i64 t388, .int .i64 t389, .int .i64 t390, .string t391, .slice Ao97 t392.length co97, .slice Ao98 t395.length co98] 25 (0, 0)) ∧ W_.heap[gb412]? = some (.cells #[.int .i64 t401, .int .i64 t402, .int .i64 t403, .string t404, .slice Ao107 t405.length co107, .slice Ao108 t408.length co108] 25 (0, 0))) ⟨bA, z0, z1, z2, z3, z4, (by refine bx ?_; refine blk_far ?_ NB356_412.out _; refine bx ?_; refine blk_far ?_ NB356_412.out _; refine bx ?_; refine blk_far ?_ NB356_412.out _; refine bx ?_; refine blk_far ?_ NB356_412.out _; refine bx ?_; refine blk_far ?_ NB356_412.out _; refine bx ?_; refine blk_far ?_ NB356_412.out _; refine bx ?_; exact BK356.out), (by refine bx ?_; refine blk_far ?_ NB371_412.out _; refine bx ?_; refine blk_far ?_ NB371_412.out _; refine bx ?_; refine blk_far ?_ NB371_412.out _; refine bx ?_; refine blk_far ?_ NB371_412.out _; refine bx ?_; refine blk_far ?_ NB371_412.out _; refine bx ?_; refine blk_far ?_ NB371_412.out _; refine bx ?_; exact BK371.out), (by refine bx ?_; refine blk_far ?_ NB387_412.out _; refine bx ?_; refine blk_far ?_ NB387_412.out _; refine bx ?_; refine blk_far ?_ NB387_412.out _; refine bx ?_; refine blk_far ?_ NB387_412.out _; refine bx ?_; refine blk_far ?_ NB387_412.out _; refine bx ?_; refine blk_far ?_ NB387_412.out _; refine bx ?_; exact BK387.out), (by refine bx ?_; refine blk_far ?_ NB399_412.out _; refine bx ?_; refine blk_far ?_ NB399_412.out _; refine bx ?_; refine blk_far ?_ NB399_412.out _; refine bx ?_; refine blk_far ?_ NB399_412.out _; refine bx ?_; refine blk_far ?_ NB399_412.out _; refine bx ?_; refine blk_far ?_ NB399_412.out _; refine bx ?_; exact BK399.out), (by refine bx ?_; refine blk_put (cs := #[.int .i64 t401, .int .i64 t402, .int .i64 t403, .string t404, .slice Ao107 t405.length co107, .slice none 0 0]) ?_ 5 _ rfl; refine bx ?_; refine blk_put (cs := #[.int .i64 t401, .int .i64 t402, .int .i64 t403, .string t404, .slice none 0 0, .slice none 0 0]) ?_ 4 _ rfl; refine bx ?_; refine blk_put (cs := #[.int .i64 t401, .int .i64 t402, .int .i64 t403, .string (⟨#[]⟩ : ByteArray), .slice none 0 0, .slice none 0 0]) ?_ 3 _ rfl; refine bx ?_; refine blk_put (cs := #[.int .i64 t401, .int .i64 t402, .int .i64 0, .string (⟨#[]⟩ : ByteArray), .slice none 0 0, .slice none 0 0]) ?_ 2 _ rfl; refine bx ?_; refine blk_put (cs := #[.int .i64 t401, .int .i64 0, .int .i64 0, .string (⟨#[]⟩ : ByteArray), .slice none 0 0, .slice none 0 0]) ?_ 1 _ rfl; refine bx ?_; refine blk_put (cs := #[.int .i64 0, .int .i64 0, .int .i64 0, .string (⟨#[]⟩ : ByteArray), .slice none 0 0, .slice none 0 0]) ?_ 0 _ rfl; refine bx ?_; exact BK412.out)⟩ (fun wg76 hC => ?_); obtain ⟨hB_, hz0_, hz1_, hz2_, hz3_, hz4_, hBK356_, hBK371_, hBK387_, hBK399_, hBK412_⟩ := hC; replace HB := as_ hB_; replace HZ0 := as_ hz0_; replace HZ1 := as_ hz1_; replace HZ2 := as_ hz2_; replace HZ3 := as_ hz3_; replace HZ4 := as_ hz4_; replace BK356 := as_ hBK356_; replace BK371 := as_ hBK371_; replace BK387 := as_ hBK387_; replace BK399 := as_ hBK399_; replace BK412 := as_ hBK412_; clear hB_ hz0_ hz1_ hz2_ hz3_ hz4_ hBK356_ hBK371_ hBK387_ hBK399_ hBK412_; obtain ⟨gcz76_0, gcz76_1, gcz76_2, gcz76_3, gcz76_4, gcz76_5⟩ := zc6 BK356; obtain ⟨gfz76_0, gfz76_1, gfz76_2, gfz76_3, gfz76_4, gfz76_5⟩ := zf6 BK356) | ((with_reducible refine gate_callee (f := 20) rfl ?_); refine goesL_ (some 77) rfl rfl Tryz.func20 (by kernel_rfl) rfl #[.agg #[.int .i64 t346, .int .i64 t347, .int .i64 t348, .string t349, .slice Ao8 t350.length co8, .slice Ao9 t353.length co9], .string (⟨#[99]⟩ : ByteArray), .int .i64 0] rfl aO ?_; (with_reducible refine (inner_Ends.calls t346 t347 t348 t349 _ _ t350 _ _ t353 (⟨#[99]⟩ : ByteArray) 0 t413 t414 true _ ?side1 ?side2 ?side3 ?side4 A22.out).mono ?_); (case side1 => exact Kd.C_below (Kd.V_reads' VC_357004.out).2.2 z0); (case side2 => exact (Kd.V_reads' VC_357004.out).2.1); (case side3 => exact Kd.C_below (Kd.V_reads' VC_357005.out).2.2 z0); (case side4 => exact (Kd.V_reads' VC_357005.out).2.1); rintro e w110 ⟨rfl, hb⟩; refine ⟨_, rfl, ?_⟩; replace BK356 := as_ (blk_below (g := gb356) (o := .cells #[.int .i64 t346, .int .i64 t347, .int .i64 t348, .string t349, .slice Ao8 t350.length co8, .slice Ao9 t353.length co9] 25 (0, 0)) (bk BK356) hb); replace BK371 := as_ (blk_below (g := gb371) (o := .cells #[.int .i64 t361, .int .i64 t362, .int .i64 2, .string (⟨#[110]⟩ : ByteArray), .slice Ao79 t365.length co79, .slice Ao80 t368.length co80] 25 (0, 0)) (bk BK371) hb); replace BK387 := as_ (blk_below (g := gb387) (o := .cells #[.int .i64 t376, .int .i64 t377, .int .i64 t378, .string t379, .slice Ao89 t380.length co89, .slice Ao90 t383.length co90] 25 (0, 0)) (bk BK387) hb); replace BK399 := as_ (blk_below (g := gb399) (o := .cells #[.int .i64 t388, .int .i64 t389, .int .i64 t390, .string t391, .slice Ao97 t392.length co97, .slice Ao98 t395.length co98] 25 (0, 0)) (bk BK399) hb); replace BK412 := as_ (blk_below (g := gb412) (o := .cells #[.int .i64 t401, .int .i64 t402, .int .i64 t403, .string t404, .slice Ao107 t405.length co107, .slice Ao108 t408.length co108] 25 (0, 0)) (bk BK412) hb); replace HB := as_ (below_step (w := w) bA hb); replace HZ0 := as_ (below_step (w := wc) z0 hb); replace HZ1 := as_ (below_step (w := w75) z1 hb); replace HZ2 := as_ (below_step (w := w84) z2 hb); replace HZ3 := as_ (below_step (w := w91) z3 hb); replace HZ4 := as_ (below_step (w := w100) z4 hb); (try clear hb); obtain ⟨hcz111_0, hcz111_1, hcz111_2, hcz111_3, hcz111_4, hcz111_5⟩ := zc6 BK356; obtain ⟨hfz111_0, hfz111_1, hfz111_2, hfz111_3, hfz111_4, hfz111_5⟩ := zf6 BK356) | ((with_reducible refine gate_callee (f := 20) rfl ?_); refine goesL_ (some 83) rfl rfl Tryz.func20 (by kernel_rfl) rfl #[.agg #[.int .i64 t346, .int .i64 t347, .int .i64 t348, .string t349, .slice Ao8 t350.length co8, .slice Ao9 t353.length co9], .string (⟨#[99]⟩ : ByteArray), .int .i64 1] rfl aO ?_; (with_reducible refine (inner_Ends.calls t346 t347 t348 t349 _ _ t350 _ _ t353 (⟨#[99]⟩ : ByteArray) 1 t416 t417 false _ ?side1 ?side2 ?side3 ?side4 A23.out).mono ?_); (case side1 => exact Kd.C_below (Kd.V_reads' VC_357004.out).2.2 z0); (case side2 => exact (Kd.V_reads' VC_357004.out).2.1); (case side3 => exact Kd.C_below (Kd.V_reads' VC_357005.out).2.2 z0); (case side4 => exact (Kd.V_reads' VC_357005.out).2.1); rintro e w112 ⟨rfl, hb⟩; refine ⟨_, rfl, ?_⟩; replace BK356 := bb BK356 hb; replace BK371 := as_ (blk_below (g := gb371) (o := .cells #[.int .i64 t361, .int .i64 t362, .int .i64 2, .string (⟨#[110]⟩ : ByteArray), .slice Ao79 t365.length co79, .slice Ao80 t368.length co80] 25 (0, 0)) (bk BK371) hb); replace BK387 := bb BK387 hb; replace BK399 := bb BK399 hb; replace BK412 := bb BK412 hb; replace HB := as_ (below_step (w := w) bA hb); replace HZ0 := as_ (below_step (w := wc) z0 hb); replace HZ1 := as_ (below_step (w := w75) z1 hb); replace HZ2 := as_ (below_step (w := w84) z2 hb); replace HZ3 := as_ (below_step (w := w91) z3 hb); replace HZ4 := as_ (below_step (w := w100) z4 hb); (try clear hb); obtain ⟨hcz113_0, hcz113_1, hcz113_2, hcz113_3, hcz113_4, hcz113_5⟩ := zc6 BK371; obtain ⟨hfz113_0, hfz113_1, hfz113_2, hfz113_3, hfz113_4, hfz113_5⟩ := zf6 BK371) | ((with_reducible refine gate_callee (f := 20) rfl ?_); refine goesL_ (some 89) rfl rfl Tryz.func20 (by kernel_rfl) rfl #[.agg #[.int .i64 t361, .int .i64 t362, .int .i64 2, .string (⟨#[110]⟩ : ByteArray), .slice Ao79 t365.length co79, .slice Ao80 t368.length co80], .string (⟨#[99]⟩ : ByteArray), .int .i64 1] rfl aO ?_; (with_reducible refine (inner_Ends.calls t361 t362 2 (⟨#[110]⟩ : ByteArray) _ _ t365 _ _ t368 (⟨#[99]⟩ : ByteArray) 1 t419 t420 true _ ?side1 ?side2 ?side3 ?side4 A24.out).mono ?_); (case side1 => exact Kd.C_below (Kd.V_reads' VC367.out).2.2 z1); (case side2 => exact (Kd.V_reads' VC367.out).2.1); (case side3 => exact Kd.C_below (Kd.V_reads' VC370.out).2.2 z1); (case side4 => exact (Kd.V_reads' VC370.out).2.1); rintro e w114 ⟨rfl, hb⟩; refine ⟨_, rfl, ?_⟩; replace BK356 := bb BK356 hb; replace BK371 := as_ (blk_below (g := gb371) (o := .cells #[.int .i64 t361, .int .i64 t362, .int .i64 2, .string (⟨#[110]⟩ : ByteArray), .slice Ao79 t365.length co79, .slice Ao80 t368.length co80] 25 (0, 0)) (bk BK371) hb); replace BK387 := bb BK387 hb; replace BK399 := bb BK399 hb; replace BK412 := bb BK412 hb; replace HB := as_ (below_step (w := w) bA hb); replace HZ0 := as_ (below_step (w := wc) z0 hb); replace HZ1 := as_ (below_step (w := w75) z1 hb); replace HZ2 := as_ (below_step (w := w84) z2 hb); replace HZ3 := as_ (below_step (w := w91) z3 hb); replace HZ4 := as_ (below_step (w := w100) z4 hb); (try clear hb); obtain ⟨hcz115_0, hcz115_1, hcz115_2, hcz115_3, hcz115_4, hcz115_5⟩ := zc6 BK371; obtain ⟨hfz115_0, hfz115_1, hfz115_2, hfz115_3, hfz115_4, hfz115_5⟩ := zf6 BK371) | ((with_reducible refine gate_callee (f := 20) rfl ?_); refine goesL_ (some 95) rfl rfl Tryz.func20 (by kernel_rfl) rfl #[.agg #[.int .i64 t361, .int .i64 t362, .int .i64 2, .string (⟨#[110]⟩ : ByteArray), .slice Ao79 t365.length co79, .slice Ao80 t368.length co80], .string (⟨#[99]⟩ : ByteArray), .int .i64 2] rfl aO ?_; (with_reducible refine (inner_Ends.calls t361 t362 2 (⟨#[110]⟩ : ByteArray) _ _ t365 _ _ t368 (⟨#[99]⟩ : ByteArray) 2 t422 t423 false _ ?side1 ?side2 ?side3 ?side4 A25.out).mono ?_); (case side1 => exact Kd.C_below (Kd.V_reads' VC367.out).2.2 z1); (case side2 => exact (Kd.V_reads' VC367.out).2.1); (case side3 => exact Kd.C_below (Kd.V_reads' VC370.out).2.2 z1); (case side4 => exact (Kd.V_reads' VC370.out).2.1); rintro e w116 ⟨rfl, hb⟩; refine ⟨_, rfl, ?_⟩; replace BK356 := bb BK356 hb; replace BK371 := as_ (blk_below (g := gb371) (o := .cells #[.int .i64 t361, .int .i64 t362, .int .i64 2, .string (⟨#[110]⟩ : ByteArray), .slice Ao79 t365.length co79, .slice Ao80 t368.length co80] 25 (0, 0)) (bk BK371) hb); replace BK387 := bb BK387 hb; replace BK399 := bb BK399 hb; replace BK412 := bb BK412 hb; replace HB := as_ (below_step (w := w) bA hb); replace HZ0 := as_ (below_step (w := wc) z0 hb); replace HZ1 := as_ (below_step (w := w75) z1 hb); replace HZ2 := as_ (below_step (w := w84) z2 hb); replace HZ3 := as_ (below_step (w := w91) z3 hb); replace HZ4 := as_ (below_step (w := w100) z4 hb); (try clear hb); (try clear hi)))
   replace BK356 := as_ (blk_drew BK356.out)
   replace BK371 := as_ (blk_drew BK371.out)
   replace BK387 := as_ (blk_drew BK387.out)
   replace BK399 := as_ (blk_drew BK399.out)
   replace BK412 := as_ (blk_drew BK412.out)
   replace HB := as_ (below_drew1 HB.out)
   have p27 : 0 ≤ (0 : Int) := (by omega)
   have q27 : 0 < t357.size := (by have : (0 : Int) < (t357.size : Int) := of_decide_eq_true aM; omega)
   have hx27 : ∀ h : 0 < t357.size, ((t357[0]'h).toNat : Int) = bt t357 0 := bt_at t357 0
   clear p27
   have qi27 : (0 < (t357.size : Int)) = True := eq_true (of_decide_eq_true aM)
   replace q27 := eq_true q27
   have p30 : 0 ≤ (1 : Int) := (by omega)
   have q30 : 1 < t357.size := (by have : (1 : Int) < (t357.size : Int) := of_decide_eq_true aM; omega)
   have hx30 : ∀ h : 1 < t357.size, ((t357[1]'h).toNat : Int) = bt t357 1 := bt_at t357 1
   clear p30
   have qi30 : (1 < (t357.size : Int)) = True := eq_true (of_decide_eq_true aM)
   replace q30 := eq_true q30
   refine start_ (n := 130) (S := fun w' => w'.cell? ⟨gb387, 0, none⟩ = some (.int .i64 t376) ∧ w'.cell? ⟨gb387, 1, none⟩ = some (.int .i64 t377) ∧ w'.cell? ⟨gb387, 2, none⟩ = some (.int .i64 t378) ∧ w'.cell? ⟨gb387, 3, none⟩ = some (.string t379) ∧ w'.cell? ⟨gb387, 4, none⟩ = some (.slice Ao89 t380.length co89) ∧ w'.cell? ⟨gb387, 5, none⟩ = some (.slice Ao90 t383.length co90) ∧ w'.cell? ⟨gb356, 0, none⟩ = some (.int .i64 t346) ∧ w'.cell? ⟨gb356, 1, none⟩ = some (.int .i64 t347) ∧ w'.cell? ⟨gb356, 2, none⟩ = some (.int .i64 t348) ∧ w'.cell? ⟨gb356, 3, none⟩ = some (.string t349) ∧ w'.cell? ⟨gb356, 4, none⟩ = some (.slice Ao8 t350.length co8) ∧ w'.cell? ⟨gb356, 5, none⟩ = some (.slice Ao9 t353.length co9) ∧ w'.cell? ⟨gb399, 0, none⟩ = some (.int .i64 t388) ∧ w'.cell? ⟨gb399, 1, none⟩ = some (.int .i64 t389) ∧ w'.cell? ⟨gb399, 2, none⟩ = some (.int .i64 t390) ∧ w'.cell? ⟨gb399, 3, none⟩ = some (.string t391) ∧ w'.cell? ⟨gb399, 4, none⟩ = some (.slice Ao97 t392.length co97) ∧ w'.cell? ⟨gb399, 5, none⟩ = some (.slice Ao98 t395.length co98) ∧ w'.cell? ⟨gb371, 0, none⟩ = some (.int .i64 t361) ∧ w'.cell? ⟨gb371, 1, none⟩ = some (.int .i64 t362) ∧ w'.cell? ⟨gb371, 2, none⟩ = some (.int .i64 2) ∧ w'.cell? ⟨gb371, 3, none⟩ = some (.string (⟨#[110]⟩ : ByteArray)) ∧ w'.cell? ⟨gb371, 4, none⟩ = some (.slice Ao79 t365.length co79) ∧ w'.cell? ⟨gb371, 5, none⟩ = some (.slice Ao80 t368.length co80)) (ds := []) #[ff, ff, ff, ff, ff, ff, ff, ff, ff, ff, ff, ff, ff, ff, ff, ff, ff, ff, ff, ff, ff, ff, ff, ff, ff, ff, ff, ff, ff, ff, ff, ff, ff, ff, ff, ff, ff, ff, ff, ff, ff, ff, ff, ff, ff, ff, ff, ff, ff, ff, ff, ff, ff, ff, ff, ff, ff, ff, ff, ff, ff, ff, ff, ff, ff, ff, ff, ff, ff, ff, ff, ff, ff, ff, ff, ff, ff, ff, ff, ff, ff, ff, ff, ff, ff, ff, ff, ff, ff, ff, ff, ff, ff, ff, ff, ff, ff, ff, ff, ff, ff, ff, ff, ff, ff, ff, ff, ff, ff, ff, ff, ff, ff, ff, ff, ff, ff, ff, ff, ff, ff, ff, ff, ff, ff, ff, ff, ff, ff, ff] (by kernel_rfl) rfl rfl ⟨(blk_cell BK387.out 0).trans rfl, (blk_cell BK387.out 1).trans rfl, (blk_cell BK387.out 2).trans rfl, (blk_cell BK387.out 3).trans rfl, (blk_cell BK387.out 4).trans rfl, (blk_cell BK387.out 5).trans rfl, (blk_cell BK356.out 0).trans rfl, (blk_cell BK356.out 1).trans rfl, (blk_cell BK356.out 2).trans rfl, (blk_cell BK356.out 3).trans rfl, (blk_cell BK356.out 4).trans rfl, (blk_cell BK356.out 5).trans rfl, (blk_cell BK399.out 0).trans rfl, (blk_cell BK399.out 1).trans rfl, (blk_cell BK399.out 2).trans rfl, (blk_cell BK399.out 3).trans rfl, (blk_cell BK399.out 4).trans rfl, (blk_cell BK399.out 5).trans rfl, (blk_cell BK371.out 0).trans rfl, (blk_cell BK371.out 1).trans rfl, (blk_cell BK371.out 2).trans rfl, (blk_cell BK371.out 3).trans rfl, (blk_cell BK371.out 4).trans rfl, (blk_cell BK371.out 5).trans rfl⟩ (fun hHeld => ?_); refine with_tabW withylaw11_fixed.tab18 withylaw11_fixed.bits18 (fun HT_ HW_ => ?_)
   replace VC_357004 := as_ (Kd.V_below (w1 := w116.drew) VC_357004.out z0)
   replace VC_357005 := as_ (Kd.V_below (w1 := w116.drew) VC_357005.out z0)
   replace VC367 := as_ (Kd.V_below (w1 := w116.drew) VC367.out z1)
   replace VC370 := as_ (Kd.V_below (w1 := w116.drew) VC370.out z1)
   replace VC382 := as_ (Kd.V_below (w1 := w116.drew) VC382.out z2)
   replace VC385 := as_ (Kd.V_below (w1 := w116.drew) VC385.out z2)
   replace VC394 := as_ (Kd.V_below (w1 := w116.drew) VC394.out z3)
   replace VC397 := as_ (Kd.V_below (w1 := w116.drew) VC397.out z3)
   replace VC407 := as_ (Kd.V_below (w1 := w116.drew) VC407.out z4)
   replace VC410 := as_ (Kd.V_below (w1 := w116.drew) VC410.out z4)
   clear HZ0 HZ1 HZ2 HZ3 HZ4
   generalize w116.drew = w117 at VC_357004 VC_357005 VC367 VC370 VC382 VC385 VC394 VC397 VC407 VC410 BK356 BK371 BK387 BK399 BK412 HB hHeld ⊢
   have HZ := as_ (Below.refl w117.heap.size w117)
   have hS := as_ (show ∀ W_ : World, Below w117.heap.size w117 W_ → (W_.cell? ⟨gb387, 0, none⟩ = some (.int .i64 t376) ∧ W_.cell? ⟨gb387, 1, none⟩ = some (.int .i64 t377) ∧ W_.cell? ⟨gb387, 2, none⟩ = some (.int .i64 t378) ∧ W_.cell? ⟨gb387, 3, none⟩ = some (.string t379) ∧ W_.cell? ⟨gb387, 4, none⟩ = some (.slice Ao89 t380.length co89) ∧ W_.cell? ⟨gb387, 5, none⟩ = some (.slice Ao90 t383.length co90) ∧ W_.cell? ⟨gb356, 0, none⟩ = some (.int .i64 t346) ∧ W_.cell? ⟨gb356, 1, none⟩ = some (.int .i64 t347) ∧ W_.cell? ⟨gb356, 2, none⟩ = some (.int .i64 t348) ∧ W_.cell? ⟨gb356, 3, none⟩ = some (.string t349) ∧ W_.cell? ⟨gb356, 4, none⟩ = some (.slice Ao8 t350.length co8) ∧ W_.cell? ⟨gb356, 5, none⟩ = some (.slice Ao9 t353.length co9) ∧ W_.cell? ⟨gb399, 0, none⟩ = some (.int .i64 t388) ∧ W_.cell? ⟨gb399, 1, none⟩ = some (.int .i64 t389) ∧ W_.cell? ⟨gb399, 2, none⟩ = some (.int .i64 t390) ∧ W_.cell? ⟨gb399, 3, none⟩ = some (.string t391) ∧ W_.cell? ⟨gb399, 4, none⟩ = some (.slice Ao97 t392.length co97) ∧ W_.cell? ⟨gb399, 5, none⟩ = some (.slice Ao98 t395.length co98) ∧ W_.cell? ⟨gb371, 0, none⟩ = some (.int .i64 t361) ∧ W_.cell? ⟨gb371, 1, none⟩ = some (.int .i64 t362) ∧ W_.cell? ⟨gb371, 2, none⟩ = some (.int .i64 2) ∧ W_.cell? ⟨gb371, 3, none⟩ = some (.string (⟨#[110]⟩ : ByteArray)) ∧ W_.cell? ⟨gb371, 4, none⟩ = some (.slice Ao79 t365.length co79) ∧ W_.cell? ⟨gb371, 5, none⟩ = some (.slice Ao80 t368.length co80)) from by
    intro W_ hb
    replace BK356 := bb BK356 hb
    replace BK371 := as_ (blk_below (g := gb371) (o := .cells #[.int .i64 t361, .int .i64 t362, .int .i64 2, .string (⟨#[110]⟩ : ByteArray), .slice Ao79 t365.length co79, .slice Ao80 t368.length co80] 25 (0, 0)) (bk BK371) hb)
    replace BK387 := bb BK387 hb
    replace BK399 := bb BK399 hb
    exact ⟨(blk_cell BK387.out 0).trans rfl, (blk_cell BK387.out 1).trans rfl, (blk_cell BK387.out 2).trans rfl, (blk_cell BK387.out 3).trans rfl, (blk_cell BK387.out 4).trans rfl, (blk_cell BK387.out 5).trans rfl, (blk_cell BK356.out 0).trans rfl, (blk_cell BK356.out 1).trans rfl, (blk_cell BK356.out 2).trans rfl, (blk_cell BK356.out 3).trans rfl, (blk_cell BK356.out 4).trans rfl, (blk_cell BK356.out 5).trans rfl, (blk_cell BK399.out 0).trans rfl, (blk_cell BK399.out 1).trans rfl, (blk_cell BK399.out 2).trans rfl, (blk_cell BK399.out 3).trans rfl, (blk_cell BK399.out 4).trans rfl, (blk_cell BK399.out 5).trans rfl, (blk_cell BK371.out 0).trans rfl, (blk_cell BK371.out 1).trans rfl, (blk_cell BK371.out 2).trans rfl, (blk_cell BK371.out 3).trans rfl, (blk_cell BK371.out 4).trans rfl, (blk_cell BK371.out 5).trans rfl⟩)
   clear BK356 BK371 BK387 BK399 BK412
   refine pu_ 0 (some 99) (mr [1, 129]) rfl rfl (h := ?_)
   refine take_ (i := 1) (N := some 100) (v := ?_) (a' := ?_) (mr [2, 128]) rfl rfl (take_ofW HT_.out HW_.out (by kernel_rfl)) (fun _ _ _ h => h) (Or.inl ⟨by rfl, ?_⟩) hHeld ?_ ?_
   rotate_left
   ·rintro w' ⟨s0, s1, s2, s3, s4, s5, s6, s7, s8, s9, s10, s11, s12, s13, s14, s15, s16, s17, s18, s19, s20, s21, s22, s23⟩
    go_simp
    with_reducible rfl
   rotate_left
   ·exact aP
   refine pu_ 2 (some 101) (mr [3, 127]) rfl rfl (h := ?_)
   refine pu_ 3 (some 102) (mr [4, 126]) rfl rfl (h := ?_)
   refine pu_ 4 (some 103) (mr [5, 125]) rfl rfl (h := ?_)
   refine take_ (i := 5) (N := some 104) (v := ?_) (a' := ?_) (mr [6, 124]) rfl rfl (take_ofW HT_.out HW_.out (by kernel_rfl)) (fun _ _ _ h => h) (Or.inl ⟨by rfl, ?_⟩) hHeld ?_ ?_
   rotate_left
   ·rintro w' ⟨s0, s1, s2, s3, s4, s5, s6, s7, s8, s9, s10, s11, s12, s13, s14, s15, s16, s17, s18, s19, s20, s21, s22, s23⟩
    go_simp
    with_reducible rfl
   rotate_left
   ·exact aP
   refine pu_ 6 (some 105) (mr [7, 123]) rfl rfl (h := ?_)
   refine pu_ 7 (some 106) (mr [8, 122]) rfl rfl (h := ?_)
   refine pu_ 8 (some 107) (mr [9, 121]) rfl rfl (h := ?_)
   refine pu_ 9 (some 108) (mr [10, 120]) rfl rfl (h := ?_)
   refine pu_ 10 (some 109) (mr [11, 119]) rfl rfl (h := ?_)
   refine pu_ 11 (some 110) (mr [12, 118]) rfl rfl (h := ?_)
   refine pu_ 12 (some 111) (mr [13, 117]) rfl rfl (h := ?_)
   refine pu_ 13 (some 112) (mr [14, 116]) rfl rfl (h := ?_)
   refine pu_ 14 (some 113) (mr [15, 115]) rfl rfl (h := ?_)
   refine pu_ 15 (some 114) (mr [16, 114]) rfl rfl (h := ?_)
   refine pu_ 16 (some 115) (mr [17, 113]) rfl rfl (h := ?_)
   refine pu_ 17 (some 116) (mr [18, 112]) rfl rfl (h := ?_)
   refine pu_ 18 (some 117) (mr [19, 111]) rfl rfl (h := ?_)
   refine pu_ 19 (some 118) (mr [20, 110]) rfl rfl (h := ?_)
   refine pu_ 20 (some 119) (mr [21, 109]) rfl rfl (h := ?_)
   refine pu_ 21 (some 120) (mr [22, 108]) rfl rfl (h := ?_)
   refine pu_ 22 (some 121) (mr [23, 107]) rfl rfl (h := ?_)
   refine pu_ 23 (some 122) (mr [24, 106]) rfl rfl (h := ?_)
   refine pu_ 24 (some 123) (mr [25, 105]) rfl rfl (h := ?_)
   refine pu_ 25 (some 124) (mr [26, 104]) rfl rfl (h := ?_)
   refine take_ (i := 26) (N := some 125) (v := ?_) (a' := ?_) (mr [27, 103]) rfl rfl (take_ofW HT_.out HW_.out (by kernel_rfl)) (fun _ _ _ h => h) (Or.inl ⟨by rfl, ?_⟩) hHeld ?_ ?_
   rotate_left
   ·rintro w' ⟨s0, s1, s2, s3, s4, s5, s6, s7, s8, s9, s10, s11, s12, s13, s14, s15, s16, s17, s18, s19, s20, s21, s22, s23⟩
    go_simp
    with_reducible rfl
   rotate_left
   ·exact aP
   refine take_ (i := 28) (N := some 127) (v := ?_) (a' := ?_) (mr [27, 1, 1, 101]) rfl rfl (take_ofW HT_.out HW_.out (by kernel_rfl)) (fun _ _ _ h => h) (Or.inl ⟨by rfl, ?_⟩) hHeld ?_ ?_
   rotate_left
   ·rintro w' ⟨s0, s1, s2, s3, s4, s5, s6, s7, s8, s9, s10, s11, s12, s13, s14, s15, s16, s17, s18, s19, s20, s21, s22, s23⟩
    go_simp
    with_reducible rfl
   rotate_left
   ·exact aP
   refine one_ (i := 27) (N := some 126) (mr [29, 101]) rfl rfl (one_of HT_.out (by kernel_rfl)) (by decide) (fun K hK => ?_)
   refine goes_ Tryz.func12 (by kernel_rfl) rfl #[.agg #[.int .i64 t376, .int .i64 t377, .int .i64 t378, .string t379, .slice Ao89 t380.length co89, .slice Ao90 t383.length co90]] (by rfl) rfl rfl aO ?_
   with_reducible refine (withylaw11_Ref.calls t376 t377 t378 t379 (fun _ => True) _ _ t380 (fun _ => True) _ _ t383 t425 t426 t427 t428 t429 t432 _ ?side1 ?side2 A39.out).mono ?_
   (case side1 => exact Kd.V_below VC382.out HZ.out)
   (case side2 => exact Kd.V_below VC385.out HZ.out)
   rintro e w118 ⟨v430, v433, rfl, ho0, ho1, hb⟩
   refine ⟨_, rfl, ?_⟩
   have HO431 := as_ (Kd.V_mono (ok' := fun _ => True) ho0 (fun _ _ => trivial))
   have HO434 := as_ (Kd.V_mono (ok' := fun _ => True) ho1 (fun _ _ => trivial))
   replace HB := as_ (below_step bA hb)
   replace HZ := as_ (below_step HZ.out hb)
   (try clear hb)
   (try clear hb2)
   (try clear hk)
   (try clear hi)
   (try clear ho0)
   (try clear ho1)
   refine hK.out _ _ (hS.out _ HZ.out) (fun hHeld => ?_)
   clear hK K
   refine nm_ (some 126) (h := ?_)
   refine one_ (i := 29) (N := some 128) (mr [30, 100]) rfl rfl (one_of HT_.out (by kernel_rfl)) (by decide) (fun K hK => ?_)
   refine goes_ Tryz.func12 (by kernel_rfl) rfl #[.agg #[.int .i64 t346, .int .i64 t347, .int .i64 t348, .string t349, .slice Ao8 t350.length co8, .slice Ao9 t353.length co9]] (by rfl) rfl rfl aO ?_
   with_reducible refine (withylaw11_Ref.calls t346 t347 t348 t349 (fun _ => True) _ _ t350 (fun _ => True) _ _ t353 t435 t436 t437 t438 t439 t442 _ ?side1 ?side2 A40.out).mono ?_
   (case side1 => exact Kd.V_below VC_357004.out HZ.out)
   (case side2 => exact Kd.V_below VC_357005.out HZ.out)
   rintro e w119 ⟨v440, v443, rfl, ho0, ho1, hb⟩
   refine ⟨_, rfl, ?_⟩
   have HO441 := as_ (Kd.V_mono (ok' := fun _ => True) ho0 (fun _ _ => trivial))
   have HO444 := as_ (Kd.V_mono (ok' := fun _ => True) ho1 (fun _ _ => trivial))
   replace HO431 := as_ (Kd.V_below HO431.out hb)
   replace HO434 := as_ (Kd.V_below HO434.out hb)
   replace HB := as_ (below_step bA hb)
   replace HZ := as_ (below_step HZ.out hb)
   (try clear hb)
   (try clear hb2)
   (try clear hk)
   (try clear hi)
   (try clear ho0)
   (try clear ho1)
   obtain ⟨Ao120, co120, eo120⟩ := Kd.V_slice HO431.out
   (first | subst eo120 | (injection eo120 with f1_ f2_ f3_; have f4_ := f1_.symm; have f5_ := f3_.symm; clear f1_ f2_ f3_; subst f4_; subst f5_))
   obtain ⟨Ao121, co121, eo121⟩ := Kd.V_slice HO434.out
   (first | subst eo121 | (injection eo121 with f1_ f2_ f3_; have f4_ := f1_.symm; have f5_ := f3_.symm; clear f1_ f2_ f3_; subst f4_; subst f5_))
   obtain ⟨Ao122, co122, eo122⟩ := Kd.V_slice HO441.out
   (first | subst eo122 | (injection eo122 with f1_ f2_ f3_; have f4_ := f1_.symm; have f5_ := f3_.symm; clear f1_ f2_ f3_; subst f4_; subst f5_))
   obtain ⟨Ao123, co123, eo123⟩ := Kd.V_slice HO444.out
   (first | subst eo123 | (injection eo123 with f1_ f2_ f3_; have f4_ := f1_.symm; have f5_ := f3_.symm; clear f1_ f2_ f3_; subst f4_; subst f5_))
   refine hK.out _ _ (hS.out _ HZ.out) (fun hHeld => ?_)
   clear hK K
   refine nm_ (some 128) (h := ?_)
   refine one_ (i := 30) (N := some 129) (mr [31, 99]) rfl rfl (one_of HT_.out (by kernel_rfl)) (by decide) (fun K hK => ?_)
   refine goes_ Tryz.func18 (by kernel_rfl) rfl #[.agg #[.int .i64 t425, .int .i64 t426, .int .i64 t427, .string t428, .slice Ao120 t429.length co120, .slice Ao121 t432.length co121], .agg #[.int .i64 t435, .int .i64 t436, .int .i64 t437, .string t438, .slice Ao122 t439.length co122, .slice Ao123 t442.length co123]] (by rfl) rfl rfl aO ?_
   with_reducible refine (withyref11_Same.calls kj3 t425 t426 t427 t428 _ _ t429 _ _ t432 t435 t436 t437 t438 _ _ t439 _ _ t442 true _ ?side1 ?side2 ?side3 ?side4 ?side5 ?side6 ?side7 ?side8 A41.out).mono ?_
   (case side1 => exact (Kd.V_reads' HO431.out).2.2)
   (case side2 => exact (Kd.V_reads' HO431.out).2.1)
   (case side3 => exact (Kd.V_reads' HO434.out).2.2)
   (case side4 => exact (Kd.V_reads' HO434.out).2.1)
   (case side5 => exact (Kd.V_reads' HO441.out).2.2)
   (case side6 => exact (Kd.V_reads' HO441.out).2.1)
   (case side7 => exact (Kd.V_reads' HO444.out).2.2)
   (case side8 => exact (Kd.V_reads' HO444.out).2.1)
   rintro e w124 ⟨rfl, hb⟩
   refine ⟨_, rfl, ?_⟩
   replace HB := as_ (below_step bA hb)
   replace HZ := as_ (below_step HZ.out hb)
   (try clear hb)
   (try clear hb2)
   (try clear hk)
   (try clear hi)
   refine hK.out _ _ (hS.out _ HZ.out) (fun hHeld => ?_)
   clear hK K
   refine nm_ (some 129) (h := ?_)
   refine pu_ 31 (some 130) (mr [32, 98]) rfl rfl (h := ?_)
   refine pu_ 32 (some 131) (mr [33, 97]) rfl rfl (h := ?_)
   refine pu_ 33 (some 132) (mr [34, 96]) rfl rfl (h := ?_)
   refine pu_ 34 (some 133) (mr [35, 95]) rfl rfl (h := ?_)
   refine pu_ 35 (some 134) (mr [36, 94]) rfl rfl (h := ?_)
   refine pu_ 36 (some 135) (mr [37, 93]) rfl rfl (h := ?_)
   refine take_ (i := 37) (N := some 136) (v := ?_) (a' := ?_) (mr [38, 92]) rfl rfl (take_ofW HT_.out HW_.out (by kernel_rfl)) (fun _ _ _ h => h) (Or.inl ⟨by rfl, ?_⟩) hHeld ?_ ?_
   rotate_left
   ·rintro w' ⟨s0, s1, s2, s3, s4, s5, s6, s7, s8, s9, s10, s11, s12, s13, s14, s15, s16, s17, s18, s19, s20, s21, s22, s23⟩
    go_simp
    with_reducible rfl
   rotate_left
   ·exact aP
   refine take_ (i := 39) (N := some 138) (v := ?_) (a' := ?_) (mr [38, 1, 1, 90]) rfl rfl (take_ofW HT_.out HW_.out (by kernel_rfl)) (fun _ _ _ h => h) (Or.inl ⟨by rfl, ?_⟩) hHeld ?_ ?_
   rotate_left
   ·rintro w' ⟨s0, s1, s2, s3, s4, s5, s6, s7, s8, s9, s10, s11, s12, s13, s14, s15, s16, s17, s18, s19, s20, s21, s22, s23⟩
    go_simp
    with_reducible rfl
   rotate_left
   ·exact aP
   refine one_ (i := 38) (N := some 137) (mr [40, 90]) rfl rfl (one_of HT_.out (by kernel_rfl)) (by decide) (fun K hK => ?_)
   refine goes_ Tryz.func12 (by kernel_rfl) rfl #[.agg #[.int .i64 t388, .int .i64 t389, .int .i64 t390, .string t391, .slice Ao97 t392.length co97, .slice Ao98 t395.length co98]] (by rfl) rfl rfl aO ?_
   with_reducible refine (withylaw11_Ref.calls t388 t389 t390 t391 (fun _ => True) _ _ t392 (fun _ => True) _ _ t395 t446 t447 t448 t449 t450 t453 _ ?side1 ?side2 A44.out).mono ?_
   (case side1 => exact Kd.V_below VC394.out HZ.out)
   (case side2 => exact Kd.V_below VC397.out HZ.out)
   rintro e w125 ⟨v451, v454, rfl, ho0, ho1, hb⟩
   refine ⟨_, rfl, ?_⟩
   have HO452 := as_ (Kd.V_mono (ok' := fun _ => True) ho0 (fun _ _ => trivial))
   have HO455 := as_ (Kd.V_mono (ok' := fun _ => True) ho1 (fun _ _ => trivial))
   replace HB := as_ (below_step bA hb)
   replace HZ := as_ (below_step HZ.out hb)
   (try clear hb)
   (try clear hb2)
   (try clear hk)
   (try clear hi)
   (try clear ho0)
   (try clear ho1)
   refine hK.out _ _ (hS.out _ HZ.out) (fun hHeld => ?_)
   clear hK K
   refine nm_ (some 137) (h := ?_)
   refine one_ (i := 40) (N := some 139) (mr [41, 89]) rfl rfl (one_of HT_.out (by kernel_rfl)) (by decide) (fun K hK => ?_)
   refine goes_ Tryz.func12 (by kernel_rfl) rfl #[.agg #[.int .i64 t361, .int .i64 t362, .int .i64 2, .string (⟨#[110]⟩ : ByteArray), .slice Ao79 t365.length co79, .slice Ao80 t368.length co80]] (by rfl) rfl rfl aO ?_
   with_reducible refine (withylaw11_Ref.calls t361 t362 2 (⟨#[110]⟩ : ByteArray) (fun _ => True) _ _ t365 (fun _ => True) _ _ t368 t456 t457 t458 t459 t460 t463 _ ?side1 ?side2 A45.out).mono ?_
   (case side1 => exact Kd.V_below VC367.out HZ.out)
   (case side2 => exact Kd.V_below VC370.out HZ.out)
   rintro e w126 ⟨v461, v464, rfl, ho0, ho1, hb⟩
   refine ⟨_, rfl, ?_⟩
   have HO462 := as_ (Kd.V_mono (ok' := fun _ => True) ho0 (fun _ _ => trivial))
   have HO465 := as_ (Kd.V_mono (ok' := fun _ => True) ho1 (fun _ _ => trivial))
   replace HO452 := as_ (Kd.V_below HO452.out hb)
   replace HO455 := as_ (Kd.V_below HO455.out hb)
   replace HB := as_ (below_step bA hb)
   replace HZ := as_ (below_step HZ.out hb)
   (try clear hb)
   (try clear hb2)
   (try clear hk)
   (try clear hi)
   (try clear ho0)
   (try clear ho1)
   obtain ⟨Ao127, co127, eo127⟩ := Kd.V_slice HO452.out
   (first | subst eo127 | (injection eo127 with f1_ f2_ f3_; have f4_ := f1_.symm; have f5_ := f3_.symm; clear f1_ f2_ f3_; subst f4_; subst f5_))
   obtain ⟨Ao128, co128, eo128⟩ := Kd.V_slice HO455.out
   (first | subst eo128 | (injection eo128 with f1_ f2_ f3_; have f4_ := f1_.symm; have f5_ := f3_.symm; clear f1_ f2_ f3_; subst f4_; subst f5_))
   obtain ⟨Ao129, co129, eo129⟩ := Kd.V_slice HO462.out
   (first | subst eo129 | (injection eo129 with f1_ f2_ f3_; have f4_ := f1_.symm; have f5_ := f3_.symm; clear f1_ f2_ f3_; subst f4_; subst f5_))
   obtain ⟨Ao130, co130, eo130⟩ := Kd.V_slice HO465.out
   (first | subst eo130 | (injection eo130 with f1_ f2_ f3_; have f4_ := f1_.symm; have f5_ := f3_.symm; clear f1_ f2_ f3_; subst f4_; subst f5_))
   refine hK.out _ _ (hS.out _ HZ.out) (fun hHeld => ?_)
   clear hK K
   refine nm_ (some 139) (h := ?_)
   refine one_ (i := 41) (N := some 140) (mr [42, 88]) rfl rfl (one_of HT_.out (by kernel_rfl)) (by decide) (fun K hK => ?_)
   refine goes_ Tryz.func18 (by kernel_rfl) rfl #[.agg #[.int .i64 t446, .int .i64 t447, .int .i64 t448, .string t449, .slice Ao127 t450.length co127, .slice Ao128 t453.length co128], .agg #[.int .i64 t456, .int .i64 t457, .int .i64 t458, .string t459, .slice Ao129 t460.length co129, .slice Ao130 t463.length co130]] (by rfl) rfl rfl aO ?_
   with_reducible refine (withyref11_Same.calls kj3 t446 t447 t448 t449 _ _ t450 _ _ t453 t456 t457 t458 t459 _ _ t460 _ _ t463 true _ ?side1 ?side2 ?side3 ?side4 ?side5 ?side6 ?side7 ?side8 A46.out).mono ?_
   (case side1 => exact (Kd.V_reads' HO452.out).2.2)
   (case side2 => exact (Kd.V_reads' HO452.out).2.1)
   (case side3 => exact (Kd.V_reads' HO455.out).2.2)
   (case side4 => exact (Kd.V_reads' HO455.out).2.1)
   (case side5 => exact (Kd.V_reads' HO462.out).2.2)
   (case side6 => exact (Kd.V_reads' HO462.out).2.1)
   (case side7 => exact (Kd.V_reads' HO465.out).2.2)
   (case side8 => exact (Kd.V_reads' HO465.out).2.1)
   rintro e w131 ⟨rfl, hb⟩
   refine ⟨_, rfl, ?_⟩
   replace HB := as_ (below_step bA hb)
   replace HZ := as_ (below_step HZ.out hb)
   (try clear hb)
   (try clear hb2)
   (try clear hk)
   (try clear hi)
   refine hK.out _ _ (hS.out _ HZ.out) (fun hHeld => ?_)
   clear hK K
   refine nm_ (some 140) (h := ?_)
   refine pu_ 42 (some 141) (mr [43, 87]) rfl rfl (h := ?_)
   refine pu_ 43 (some 142) (mr [44, 86]) rfl rfl (h := ?_)
   refine pu_ 44 (some 143) (mr [45, 85]) rfl rfl (h := ?_)
   refine pu_ 45 (some 144) (mr [46, 84]) rfl rfl (h := ?_)
   refine pu_ 46 (some 145) (mr [47, 83]) rfl rfl (h := ?_)
   refine pu_ 47 (some 146) (mr [48, 82]) rfl rfl (h := ?_)
   refine pu_ 48 (some 147) (mr [49, 81]) rfl rfl (h := ?_)
   refine pu_ 49 (some 148) (mr [50, 80]) rfl rfl (h := ?_)
   refine pu_ 50 (some 149) (mr [51, 79]) rfl rfl (h := ?_)
   refine pu_ 51 (some 150) (mr [52, 78]) rfl rfl (h := ?_)
   refine take_ (i := 52) (N := some 151) (v := ?_) (a' := ?_) (mr [53, 77]) rfl rfl (take_ofW HT_.out HW_.out (by kernel_rfl)) (fun _ _ _ h => h) (Or.inl ⟨by rfl, ?_⟩) hHeld ?_ ?_
   rotate_left
   ·rintro w' ⟨s0, s1, s2, s3, s4, s5, s6, s7, s8, s9, s10, s11, s12, s13, s14, s15, s16, s17, s18, s19, s20, s21, s22, s23⟩
    go_simp
    with_reducible rfl
   rotate_left
   ·exact aP
   refine one_ (i := 53) (N := some 152) (mr [54, 76]) rfl rfl (one_of HT_.out (by kernel_rfl)) (by decide) (fun K hK => ?_)
   refine goes_ Tryz.func24 (by kernel_rfl) rfl #[.agg #[.int .i64 t346, .int .i64 t347, .int .i64 t348, .string t349, .slice Ao8 t350.length co8, .slice Ao9 t353.length co9], .string (⟨#[97]⟩ : ByteArray)] (by rfl) rfl rfl aO ?_
   with_reducible refine (inner_Route.calls kj3 t346 t347 t348 t349 _ _ t350 _ _ t353 (⟨#[97]⟩ : ByteArray) t467 _ ?side1 ?side2 ?side3 ?side4 A50.out).mono ?_
   (case side1 => exact Kd.C_below (Kd.V_reads' VC_357004.out).2.2 HZ.out)
   (case side2 => exact (Kd.V_reads' VC_357004.out).2.1)
   (case side3 => exact Kd.C_below (Kd.V_reads' VC_357005.out).2.2 HZ.out)
   (case side4 => exact (Kd.V_reads' VC_357005.out).2.1)
   rintro e w132 ⟨rfl, hb⟩
   refine ⟨_, rfl, ?_⟩
   replace HB := as_ (below_step bA hb)
   replace HZ := as_ (below_step HZ.out hb)
   (try clear hb)
   (try clear hb2)
   (try clear hk)
   (try clear hi)
   refine hK.out _ _ (hS.out _ HZ.out) (fun hHeld => ?_)
   clear hK K
   refine nm_ (some 152) (h := ?_)
   refine pu_ 54 (some 153) (mr [55, 75]) rfl rfl (h := ?_)
   refine pu_ 55 (some 154) (mr [56, 74]) rfl rfl (h := ?_)
   refine pu_ 56 (some 155) (mr [57, 73]) rfl rfl (h := ?_)
   refine take_ (i := 57) (N := some 156) (v := ?_) (a' := ?_) (mr [58, 72]) rfl rfl (take_ofW HT_.out HW_.out (by kernel_rfl)) (fun _ _ _ h => h) (Or.inl ⟨by rfl, ?_⟩) hHeld ?_ ?_
   rotate_left
   ·rintro w' ⟨s0, s1, s2, s3, s4, s5, s6, s7, s8, s9, s10, s11, s12, s13, s14, s15, s16, s17, s18, s19, s20, s21, s22, s23⟩
    go_simp
    with_reducible rfl
   rotate_left
   ·exact aP
   refine one_ (i := 58) (N := some 157) (mr [59, 71]) rfl rfl (one_of HT_.out (by kernel_rfl)) (by decide) (fun K hK => ?_)
   refine goes_ Tryz.func24 (by kernel_rfl) rfl #[.agg #[.int .i64 t346, .int .i64 t347, .int .i64 t348, .string t349, .slice Ao8 t350.length co8, .slice Ao9 t353.length co9], .string (⟨#[109]⟩ : ByteArray)] (by rfl) rfl rfl aO ?_
   with_reducible refine (inner_Route.calls kj3 t346 t347 t348 t349 _ _ t350 _ _ t353 (⟨#[109]⟩ : ByteArray) t468 _ ?side1 ?side2 ?side3 ?side4 A52.out).mono ?_
   (case side1 => exact Kd.C_below (Kd.V_reads' VC_357004.out).2.2 HZ.out)
   (case side2 => exact (Kd.V_reads' VC_357004.out).2.1)
   (case side3 => exact Kd.C_below (Kd.V_reads' VC_357005.out).2.2 HZ.out)
   (case side4 => exact (Kd.V_reads' VC_357005.out).2.1)
   rintro e w133 ⟨rfl, hb⟩
   refine ⟨_, rfl, ?_⟩
   replace HB := as_ (below_step bA hb)
   replace HZ := as_ (below_step HZ.out hb)
   (try clear hb)
   (try clear hb2)
   (try clear hk)
   (try clear hi)
   refine hK.out _ _ (hS.out _ HZ.out) (fun hHeld => ?_)
   clear hK K
   refine nm_ (some 157) (h := ?_)
   refine pu_ 59 (some 158) (mr [60, 70]) rfl rfl (h := ?_)
   refine pu_ 60 (some 159) (mr [61, 69]) rfl rfl (h := ?_)
   refine pu_ 61 (some 160) (mr [62, 68]) rfl rfl (h := ?_)
   refine take_ (i := 62) (N := some 161) (v := ?_) (a' := ?_) (mr [63, 67]) rfl rfl (take_ofW HT_.out HW_.out (by kernel_rfl)) (fun _ _ _ h => h) (Or.inl ⟨by rfl, ?_⟩) hHeld ?_ ?_
   rotate_left
   ·rintro w' ⟨s0, s1, s2, s3, s4, s5, s6, s7, s8, s9, s10, s11, s12, s13, s14, s15, s16, s17, s18, s19, s20, s21, s22, s23⟩
    go_simp
    with_reducible rfl
   rotate_left
   ·exact aP
   refine one_ (i := 63) (N := some 162) (mr [64, 66]) rfl rfl (one_of HT_.out (by kernel_rfl)) (by decide) (fun K hK => ?_)
   refine goes_ Tryz.func24 (by kernel_rfl) rfl #[.agg #[.int .i64 t346, .int .i64 t347, .int .i64 t348, .string t349, .slice Ao8 t350.length co8, .slice Ao9 t353.length co9], .string (⟨#[108, 255]⟩ : ByteArray)] (by rfl) rfl rfl aO ?_
   with_reducible refine (inner_Route.calls kj3 t346 t347 t348 t349 _ _ t350 _ _ t353 (⟨#[108, 255]⟩ : ByteArray) t469 _ ?side1 ?side2 ?side3 ?side4 A54.out).mono ?_
   (case side1 => exact Kd.C_below (Kd.V_reads' VC_357004.out).2.2 HZ.out)
   (case side2 => exact (Kd.V_reads' VC_357004.out).2.1)
   (case side3 => exact Kd.C_below (Kd.V_reads' VC_357005.out).2.2 HZ.out)
   (case side4 => exact (Kd.V_reads' VC_357005.out).2.1)
   rintro e w134 ⟨rfl, hb⟩
   refine ⟨_, rfl, ?_⟩
   replace HB := as_ (below_step bA hb)
   replace HZ := as_ (below_step HZ.out hb)
   (try clear hb)
   (try clear hb2)
   (try clear hk)
   (try clear hi)
   refine hK.out _ _ (hS.out _ HZ.out) (fun hHeld => ?_)
   clear hK K
   refine nm_ (some 162) (h := ?_)
   refine pu_ 64 (some 163) (mr [65, 65]) rfl rfl (h := ?_)
   refine pu_ 65 (some 164) (mr [66, 64]) rfl rfl (h := ?_)
   refine pu_ 66 (some 165) (mr [67, 63]) rfl rfl (h := ?_)
   refine pu_ 67 (some 166) (mr [68, 62]) rfl rfl (h := ?_)
   refine pu_ 68 (some 167) (mr [69, 61]) rfl rfl (h := ?_)
   refine pu_ 69 (some 168) (mr [70, 60]) rfl rfl (h := ?_)
   refine pu_ 70 (some 169) (mr [71, 59]) rfl rfl (h := ?_)
   refine pu_ 71 (some 170) (mr [72, 58]) rfl rfl (h := ?_)
   refine pu_ 72 (some 171) (mr [73, 57]) rfl rfl (h := ?_)
   refine pu_ 73 (some 172) (mr [74, 56]) rfl rfl (h := ?_)
   refine pu_ 74 (some 173) (mr [75, 55]) rfl rfl (h := ?_)
   refine pu_ 75 (some 174) (mr [76, 54]) rfl rfl (h := ?_)
   refine pu_ 76 (some 175) (mr [77, 53]) rfl rfl (h := ?_)
   refine pu_ 77 (some 176) (mr [78, 52]) rfl rfl (h := ?_)
   refine pu_ 78 (some 177) (mr [79, 51]) rfl rfl (h := ?_)
   refine pu_ 79 (some 178) (mr [80, 50]) rfl rfl (h := ?_)
   refine pu_ 80 (some 179) (mr [81, 49]) rfl rfl (h := ?_)
   refine pu_ 81 (some 180) (mr [82, 48]) rfl rfl (h := ?_)
   refine pu_ 82 (some 181) (mr [83, 47]) rfl rfl (h := ?_)
   refine pu_ 83 (some 182) (mr [84, 46]) rfl rfl (h := ?_)
   refine pu_ 84 (some 183) (mr [85, 45]) rfl rfl (h := ?_)
   refine pu_ 85 (some 184) (mr [86, 44]) rfl rfl (h := ?_)
   refine pu_ 86 (some 185) (mr [87, 43]) rfl rfl (h := ?_)
   refine pu_ 87 (some 186) (mr [88, 42]) rfl rfl (h := ?_)
   refine pu_ 88 (some 187) (mr [89, 41]) rfl rfl (h := ?_)
   refine pu_ 89 (some 188) (mr [90, 40]) rfl rfl (h := ?_)
   refine pu_ 90 (some 189) (mr [91, 39]) rfl rfl (h := ?_)
   refine pu_ 91 (some 190) (mr [92, 38]) rfl rfl (h := ?_)
   refine pu_ 92 (some 191) (mr [93, 37]) rfl rfl (h := ?_)
   refine pu_ 93 (some 192) (mr [94, 36]) rfl rfl (h := ?_)
   refine pu_ 94 (some 193) (mr [95, 35]) rfl rfl (h := ?_)
   refine pu_ 95 (some 194) (mr [96, 34]) rfl rfl (h := ?_)
   refine pu_ 96 (some 195) (mr [97, 33]) rfl rfl (h := ?_)
   refine pu_ 97 (some 196) (mr [98, 32]) rfl rfl (h := ?_)
   refine pu_ 98 (some 197) (mr [99, 31]) rfl rfl (h := ?_)
   refine pu_ 99 (some 198) (mr [100, 30]) rfl rfl (h := ?_)
   refine pu_ 100 (some 199) (mr [101, 29]) rfl rfl (h := ?_)
   refine pu_ 101 (some 200) (mr [102, 28]) rfl rfl (h := ?_)
   refine pu_ 102 (some 201) (mr [103, 27]) rfl rfl (h := ?_)
   refine pu_ 103 (some 202) (mr [104, 26]) rfl rfl (h := ?_)
   refine pu_ 104 (some 203) (mr [105, 25]) rfl rfl (h := ?_)
   refine take_ (i := 105) (N := some 204) (v := ?_) (a' := ?_) (mr [106, 24]) rfl rfl (take_ofW HT_.out HW_.out (by kernel_rfl)) (fun _ _ _ h => h) (Or.inl ⟨by rfl, ?_⟩) hHeld ?_ ?_
   rotate_left
   ·rintro w' ⟨s0, s1, s2, s3, s4, s5, s6, s7, s8, s9, s10, s11, s12, s13, s14, s15, s16, s17, s18, s19, s20, s21, s22, s23⟩
    go_simp
    with_reducible rfl
   rotate_left
   ·exact aP
   refine one_ (i := 106) (N := some 205) (mr [107, 23]) rfl rfl (one_of HT_.out (by kernel_rfl)) (by decide) (fun K hK => ?_)
   refine goes_ Tryz.func15 (by kernel_rfl) rfl #[.agg #[.int .i64 t346, .int .i64 t347, .int .i64 t348, .string t349, .slice Ao8 t350.length co8, .slice Ao9 t353.length co9], .int .i64 128] (by rfl) rfl rfl aO ?_
   with_reducible refine (inner_May.calls kj3 t346 t347 t348 t349 _ _ t350 _ _ t353 128 true _ ?side1 ?side2 ?side3 ?side4 A66.out).mono ?_
   (case side1 => exact Kd.C_below (Kd.V_reads' VC_357004.out).2.2 HZ.out)
   (case side2 => exact (Kd.V_reads' VC_357004.out).2.1)
   (case side3 => exact Kd.C_below (Kd.V_reads' VC_357005.out).2.2 HZ.out)
   (case side4 => exact (Kd.V_reads' VC_357005.out).2.1)
   rintro e w135 ⟨rfl, hb⟩
   refine ⟨_, rfl, ?_⟩
   replace HB := as_ (below_step bA hb)
   replace HZ := as_ (below_step HZ.out hb)
   (try clear hb)
   (try clear hb2)
   (try clear hk)
   (try clear hi)
   refine hK.out _ _ (hS.out _ HZ.out) (fun hHeld => ?_)
   clear hK K
   refine nm_ (some 205) (h := ?_)
   refine pu_ 107 (some 206) (mr [108, 22]) rfl rfl (h := ?_)
   refine pu_ 108 (some 207) (mr [109, 21]) rfl rfl (h := ?_)
   refine pu_ 109 (some 208) (mr [110, 20]) rfl rfl (h := ?_)
   refine one_ (i := 110) (N := some 209) (mr [111, 19]) rfl rfl (one_of HT_.out (by kernel_rfl)) (by decide) (fun K hK => ?_)
   refine goes_ Tryz.func15 (by kernel_rfl) rfl #[.agg #[.int .i64 0, .int .i64 0, .int .i64 0, .string (⟨#[]⟩ : ByteArray), .slice none 0 0, .slice none 0 0], .int .i64 128] (by rfl) rfl rfl aO ?_
   refine (inner_May.calls kj3 0 0 0 (⟨#[]⟩ : ByteArray) _ _ ([] : List Int) _ _ ([] : List ByteArray) 128 false _ ?side1 ?side2 ?side3 ?side4 A68.out).mono ?_
   (case side1 => exact Kd.C_nil _ _)
   (case side2 => exact Nat.le_refl _)
   (case side3 => exact Kd.C_nil _ _)
   (case side4 => exact Nat.le_refl _)
   rintro e w136 ⟨rfl, hb⟩
   refine ⟨_, rfl, ?_⟩
   replace HB := as_ (below_step bA hb)
   replace HZ := as_ (below_step HZ.out hb)
   (try clear hb)
   (try clear hb2)
   (try clear hk)
   (try clear hi)
   refine hK.out _ _ (hS.out _ HZ.out) (fun hHeld => ?_)
   clear hK K
   refine nm_ (some 209) (h := ?_)
   refine pu_ 111 (some 210) (mr [112, 18]) rfl rfl (h := ?_)
   refine pu_ 112 (some 211) (mr [113, 17]) rfl rfl (h := ?_)
   refine pu_ 113 (some 212) (mr [114, 16]) rfl rfl (h := ?_)
   refine take_ (i := 114) (N := some 213) (v := ?_) (a' := ?_) (mr [115, 15]) rfl rfl (take_ofW HT_.out HW_.out (by kernel_rfl)) (fun _ _ _ h => h) (Or.inl ⟨by rfl, ?_⟩) hHeld ?_ ?_
   rotate_left
   ·rintro w' ⟨s0, s1, s2, s3, s4, s5, s6, s7, s8, s9, s10, s11, s12, s13, s14, s15, s16, s17, s18, s19, s20, s21, s22, s23⟩
    go_simp
    with_reducible rfl
   rotate_left
   ·exact aP
   refine take_ (i := 115) (N := some 214) (v := ?_) (a' := ?_) (mr [116, 14]) rfl rfl (take_ofW HT_.out HW_.out (by kernel_rfl)) (fun _ _ _ h => h) (Or.inl ⟨by rfl, ?_⟩) hHeld ?_ ?_
   rotate_left
   ·rintro w' ⟨s0, s1, s2, s3, s4, s5, s6, s7, s8, s9, s10, s11, s12, s13, s14, s15, s16, s17, s18, s19, s20, s21, s22, s23⟩
    go_simp
    with_reducible rfl
   rotate_left
   ·exact aP
   refine one_ (i := 116) (N := some 215) (mr [117, 13]) rfl rfl (one_of HT_.out (by kernel_rfl)) (by decide) (fun K hK => ?_)
   refine goes_ Tryz.func17 (by kernel_rfl) rfl #[.agg #[.int .i64 t346, .int .i64 t347, .int .i64 t348, .string t349, .slice Ao8 t350.length co8, .slice Ao9 t353.length co9], .agg #[.int .i64 t346, .int .i64 t347, .int .i64 t348, .string t349, .slice Ao8 t350.length co8, .slice Ao9 t353.length co9]] (by rfl) rfl rfl aO ?_
   with_reducible refine (inner_Same.calls kj3 t346 t347 t348 t349 _ _ t350 _ _ t353 t346 t347 t348 t349 _ _ t350 _ _ t353 true _ ?side1 ?side2 ?side3 ?side4 ?side5 ?side6 ?side7 ?side8 A70.out).mono ?_
   (case side1 => exact Kd.C_below (Kd.V_reads' VC_357004.out).2.2 HZ.out)
   (case side2 => exact (Kd.V_reads' VC_357004.out).2.1)
   (case side3 => exact Kd.C_below (Kd.V_reads' VC_357005.out).2.2 HZ.out)
   (case side4 => exact (Kd.V_reads' VC_357005.out).2.1)
   (case side5 => exact Kd.C_below (Kd.V_reads' VC_357004.out).2.2 HZ.out)
   (case side6 => exact (Kd.V_reads' VC_357004.out).2.1)
   (case side7 => exact Kd.C_below (Kd.V_reads' VC_357005.out).2.2 HZ.out)
   (case side8 => exact (Kd.V_reads' VC_357005.out).2.1)
   rintro e w137 ⟨rfl, hb⟩
   refine ⟨_, rfl, ?_⟩
   replace HB := as_ (below_step bA hb)
   replace HZ := as_ (below_step HZ.out hb)
   (try clear hb)
   (try clear hb2)
   (try clear hk)
   (try clear hi)
   refine hK.out _ _ (hS.out _ HZ.out) (fun hHeld => ?_)
   clear hK K
   refine nm_ (some 215) (h := ?_)
   refine pu_ 117 (some 216) (mr [118, 12]) rfl rfl (h := ?_)
   refine pu_ 118 (some 217) (mr [119, 11]) rfl rfl (h := ?_)
   refine take_ (i := 119) (N := some 218) (v := ?_) (a' := ?_) (mr [120, 10]) rfl rfl (take_ofW HT_.out HW_.out (by kernel_rfl)) (fun _ _ _ h => h) (Or.inl ⟨by rfl, ?_⟩) hHeld ?_ ?_
   rotate_left
   ·rintro w' ⟨s0, s1, s2, s3, s4, s5, s6, s7, s8, s9, s10, s11, s12, s13, s14, s15, s16, s17, s18, s19, s20, s21, s22, s23⟩
    go_simp
    with_reducible rfl
   rotate_left
   ·exact aP
   refine take_ (i := 120) (N := some 219) (v := ?_) (a' := ?_) (mr [121, 9]) rfl rfl (take_ofW HT_.out HW_.out (by kernel_rfl)) (fun _ _ _ h => h) (Or.inl ⟨by rfl, ?_⟩) hHeld ?_ ?_
   rotate_left
   ·rintro w' ⟨s0, s1, s2, s3, s4, s5, s6, s7, s8, s9, s10, s11, s12, s13, s14, s15, s16, s17, s18, s19, s20, s21, s22, s23⟩
    go_simp
    with_reducible rfl
   rotate_left
   ·exact aP
   refine one_ (i := 121) (N := some 220) (mr [122, 8]) rfl rfl (one_of HT_.out (by kernel_rfl)) (by decide) (fun K hK => ?_)
   refine goes_ Tryz.func17 (by kernel_rfl) rfl #[.agg #[.int .i64 t346, .int .i64 t347, .int .i64 t348, .string t349, .slice Ao8 t350.length co8, .slice Ao9 t353.length co9], .agg #[.int .i64 t361, .int .i64 t362, .int .i64 2, .string (⟨#[110]⟩ : ByteArray), .slice Ao79 t365.length co79, .slice Ao80 t368.length co80]] (by rfl) rfl rfl aO ?_
   with_reducible refine (inner_Same.calls kj3 t346 t347 t348 t349 _ _ t350 _ _ t353 t361 t362 2 (⟨#[110]⟩ : ByteArray) _ _ t365 _ _ t368 false _ ?side1 ?side2 ?side3 ?side4 ?side5 ?side6 ?side7 ?side8 A72.out).mono ?_
   (case side1 => exact Kd.C_below (Kd.V_reads' VC_357004.out).2.2 HZ.out)
   (case side2 => exact (Kd.V_reads' VC_357004.out).2.1)
   (case side3 => exact Kd.C_below (Kd.V_reads' VC_357005.out).2.2 HZ.out)
   (case side4 => exact (Kd.V_reads' VC_357005.out).2.1)
   (case side5 => exact Kd.C_below (Kd.V_reads' VC367.out).2.2 HZ.out)
   (case side6 => exact (Kd.V_reads' VC367.out).2.1)
   (case side7 => exact Kd.C_below (Kd.V_reads' VC370.out).2.2 HZ.out)
   (case side8 => exact (Kd.V_reads' VC370.out).2.1)
   rintro e w138 ⟨rfl, hb⟩
   refine ⟨_, rfl, ?_⟩
   replace HB := as_ (below_step bA hb)
   replace HZ := as_ (below_step HZ.out hb)
   (try clear hb)
   (try clear hb2)
   (try clear hk)
   (try clear hi)
   refine hK.out _ _ (hS.out _ HZ.out) (fun hHeld => ?_)
   clear hK K
   refine nm_ (some 220) (h := ?_)
   refine pu_ 122 (some 221) (mr [123, 7]) rfl rfl (h := ?_)
   refine pu_ 123 (some 222) (mr [124, 6]) rfl rfl (h := ?_)
   refine pu_ 124 (some 223) (mr [125, 5]) rfl rfl (h := ?_)
   refine take_ (i := 125) (N := some 224) (v := ?_) (a' := ?_) (mr [126, 4]) rfl rfl (take_ofW HT_.out HW_.out (by kernel_rfl)) (fun _ _ _ h => h) (Or.inl ⟨by rfl, ?_⟩) hHeld ?_ ?_
   rotate_left
   ·rintro w' ⟨s0, s1, s2, s3, s4, s5, s6, s7, s8, s9, s10, s11, s12, s13, s14, s15, s16, s17, s18, s19, s20, s21, s22, s23⟩
    go_simp
    with_reducible rfl
   rotate_left
   ·exact aP
   refine one_ (i := 126) (N := some 225) (mr [127, 3]) rfl rfl (one_of HT_.out (by kernel_rfl)) (by decide) (fun K hK => ?_)
   refine goes_ Tryz.func22 (by kernel_rfl) rfl #[.agg #[.int .i64 t346, .int .i64 t347, .int .i64 t348, .string t349, .slice Ao8 t350.length co8, .slice Ao9 t353.length co9]] (by rfl) rfl rfl aO ?_
   with_reducible refine (inner_Size.calls kj3 t346 t347 t348 t349 _ _ t350 _ _ t353 t474 _ ?side1 ?side2 ?side3 ?side4 A74.out).mono ?_
   (case side1 => exact Kd.C_below (Kd.V_reads' VC_357004.out).2.2 HZ.out)
   (case side2 => exact (Kd.V_reads' VC_357004.out).2.1)
   (case side3 => exact Kd.C_below (Kd.V_reads' VC_357005.out).2.2 HZ.out)
   (case side4 => exact (Kd.V_reads' VC_357005.out).2.1)
   rintro e w139 ⟨rfl, hb⟩
   refine ⟨_, rfl, ?_⟩
   replace HB := as_ (below_step bA hb)
   replace HZ := as_ (below_step HZ.out hb)
   (try clear hb)
   (try clear hb2)
   (try clear hk)
   (try clear hi)
   refine hK.out _ _ (hS.out _ HZ.out) (fun hHeld => ?_)
   clear hK K
   refine nm_ (some 225) (h := ?_)
   refine pu_ 127 (some 226) (mr [128, 2]) rfl rfl (h := ?_)
   refine pu_ 128 (some 227) (mr [129, 1]) rfl rfl (h := ?_)
   refine pu_ 129 (some 0) (mr [130]) rfl rfl (h := ?_)
   refine done_ (done_of HT_.out (by kernel_rfl)) ?_
   try go_wp2
   go_ret
   exact ⟨by first | rfl | (simp [errW_none, errW_some] <;> rfl) | (simp only [← hjs34]; first | rfl | (simp [errW_none, errW_some] <;> rfl)) | (simp [*, errW_none, errW_some] <;> rfl), bA⟩
end Go.Proofs.YtafebmhmcdnhkaaGreat.P
