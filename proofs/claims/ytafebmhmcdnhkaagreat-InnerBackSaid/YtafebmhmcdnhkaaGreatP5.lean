/- What is proved here: for functions of the Go text, a Lean function each, and that the call comes to just what it answers. Conditions: as each contract names them. Written by wip/tools/myprint.py, a driver of the print of the kit. -/
import Derived.Test.YtafebmhmcdnhkaaGreatP0
import Derived.Test.YtafebmhmcdnhkaaGreatP3
import Derived.Test.YtafebmhmcdnhkaaGreatWAbbr
namespace Go.Proofs.YtafebmhmcdnhkaaGreat.P
open Go.RowKit Go.Proofs.YtafebmhmcdnhkaaGreatW.PrintWords Go.Proofs.YtafebmhmcdnhkaaGreatW.PrintLast Go.Proofs.YtafebmhmcdnhkaaGreatW.PrintMore Go.Proofs.YtafebmhmcdnhkaaGreatW.Abbr
-- PACKED
attribute [local go_sem] max2_int min2_int max_two min_two max_three min_three max_four min_four Go.Proofs.YtafebmhmcdnhkaaGreatLaws.str_leq Go.Proofs.YtafebmhmcdnhkaaGreatLaws.str_gtr Go.Proofs.YtafebmhmcdnhkaaGreatLaws.str_geq Go.Proofs.YtafebmhmcdnhkaaGreatLaws.max2_str Go.Proofs.YtafebmhmcdnhkaaGreatLaws.min2_str   -- for this text's walks alone
set_option linter.unusedVariables false
set_option linter.unusedSimpArgs false

/-! ### strings_Join: function 87, by hand -/
theorem addr_plain_of_cell {W : World} {a : Addr} {v : Value} (h : W.cell? a = some v) : a = ⟨a.block, a.off, none⟩ := by
 obtain ⟨b, o, s⟩ := a
 cases s with
 | none => rfl
 | some x =>
  exfalso
  simp only [World.cell?] at h
  split at h
  ·simp at h
  ·cases h
def strings_Join.f (l0 : List ByteArray) (a1 : ByteArray) : Option (ByteArray) := if (Lib.join (l0.map (·.data.toList)) a1.data.toList).length ≤ 140737488355328 then (if l0.length ≤ 140737488355328 then (some (⟨(Lib.join (l0.map (·.data.toList)) a1.data.toList).toArray⟩ : ByteArray)) else (none)) else (none)
theorem strings_Join.calls (A0 : Option Addr) (c0 : Nat) (l0 : List ByteArray) (a1 : ByteArray) (r : ByteArray) (w : World) (hr0 : Kd.C Kd.string w A0 l0.length l0) (hc0 : l0.length ≤ c0) (h : strings_Join.f l0 a1 = some r) :
  Calls Tryz.prog 87 #[.slice A0 l0.length c0, .string a1] w fun e w' => e = .returned (.string r) ∧ Below w.heap.size w w' := by
 unfold strings_Join.f at h
 by_cases h1 : (Lib.join (l0.map (·.data.toList)) a1.data.toList).length ≤ 140737488355328
 rotate_left
 ·rw [if_neg h1] at h
  cases h
 
 
 by_cases h2 : l0.length ≤ 140737488355328
 rotate_left
 ·rw [if_pos h1, if_neg h2] at h
  cases h
 rw [if_pos h1, if_pos h2] at h
 injection h with h
 subst h
 rcases Nat.eq_zero_or_pos l0.length with h0 | h0
 ·have : l0 = [] := List.eq_nil_of_length_eq_zero h0
  subst this
  exact (Tryz.strings_Join_none A0 c0 a1 w).mono fun e w' ⟨he, hw⟩ => ⟨he, hw ▸ Below.refl _ _⟩
 obtain ⟨ad, e, hc⟩ := hr0.2.2 h0
 have hcell : ∀ (j : Nat) (x : ByteArray), l0[j]? = some x → w.cell? (ad.add j) = some (.string x) := by
  intro j x hx
  obtain ⟨c, hl, hk, hcc⟩ := hc j x hx
  have hk' : c = [Value.string x] := hk
  subst hk'
  have := hcc 0 _ rfl
  rwa [Nat.add_zero, show (Kd.string).sz = 1 from rfl, Nat.mul_one] at this
 obtain ⟨x0, hx0⟩ : ∃ x0, l0[0]? = some x0 := ⟨_, List.getElem?_eq_getElem h0⟩
 have h00 := hcell 0 x0 hx0
 rw [Addr.add_zero'] at h00
 have hp := addr_plain_of_cell h00
 have hlt := World.block_lt_of_cell? w ad h00
 obtain ⟨b, o, s⟩ := ad
 have hs : s = none := by injection hp
 subst hs
 subst e
 exact Tryz.strings_Join b o c0 l0 a1 w (fun j x hx => by have h3 := hcell j x hx; rwa [Go.WideShapes.add_plain] at h3) hlt h2 hc0 h1
/-! ### slot_Size: function 55 -/
def slot_Size.f (a0 : ByteArray) (l1 : List ByteArray) : Option (Int) := (strings_Join.f l1 (⟨#[]⟩ : ByteArray)).bind fun t191 => (some (wrap64 ((wrap64 ((a0.size : Int) + (t191.size : Int))) + (wrap64 (2 * (wrap64 ((l1.length : Int) + 1)))))))
set_option maxHeartbeats 8000000 in
set_option maxRecDepth 100000 in
theorem slot_Size.calls (a0 : ByteArray) (A1 : Option Addr) (c1 : Nat) (l1 : List ByteArray) (r : Int) (w : World) (hr1 : Kd.C Kd.string w A1 l1.length l1) (hc1 : l1.length ≤ c1) (h : slot_Size.f a0 l1 = some r) :
  Calls Tryz.prog 55 #[.string a0, .slice A1 l1.length c1] w fun e w' => e = .returned (.int .i64 r) ∧ Below w.heap.size w w' := by
 have HR1 := Aside0.mk hr1
 have HC1 := Aside0.mk hc1
 clear hr1 hc1
 have HB := as_ (Below.refl w.heap.size w)
 have H : ((strings_Join.f l1 (⟨#[]⟩ : ByteArray)).bind fun t191 => (some (wrap64 ((wrap64 ((a0.size : Int) + (t191.size : Int))) + (wrap64 (2 * (wrap64 ((l1.length : Int) + 1)))))))) = some r := h
 clear h
 obtain ⟨t191, A3, H⟩ := bN H
 (try dsimp only at H)
 obtain rfl := Option.some.inj H
 go_enter Tryz.func55, Tryz.ntmps55
 go_wp2_with (first | ((with_reducible refine gate_callee (f := 87) rfl ?_); refine goesL_ (some 8) rfl rfl Tryz.func87 (by kernel_rfl) rfl #[.slice A1 l1.length c1, .string (⟨#[]⟩ : ByteArray)] rfl aO ?_; (with_reducible refine (strings_Join.calls _ _ l1 (⟨#[]⟩ : ByteArray) t191 _ ?side1 ?side2 A3.out).mono ?_); (case side1 => repeat (first | exact HR1.out | (with_reducible refine Kd.C_alloc ?_ _) | (with_reducible refine Kd.C_drewN ?_ _) | (with_reducible refine Kd.C_drew ?_))); (case side2 => exact HC1.out); rintro e w4 ⟨rfl, hb⟩; refine ⟨_, rfl, ?_⟩; replace HB := as_ (below_step bA hb); (try clear hb); (try clear hi)))
 go_ret
 exact ⟨eW, bA⟩

/-! ### slot_place: function 64 -/
def slot_place.f (a0 : Int) : Option (ByteArray) := some (strOfNums (([(a0) % 256, (a0 / 256) % 256] : List Int)))
set_option maxHeartbeats 8000000 in
set_option maxRecDepth 100000 in
theorem slot_place.calls (a0 : Int) (r : ByteArray) (w : World) (h : slot_place.f a0 = some r) :
  Calls Tryz.prog 64 #[.int .i64 a0] w fun e w' => e = .returned (.string r) ∧ Below w.heap.size w w' := by
 have HB := as_ (Below.refl w.heap.size w)
 have H : (some (strOfNums (([(a0) % 256, (a0 / 256) % 256] : List Int)))) = some r := h
 clear h
 obtain ⟨y192, hy192⟩ : ∃ y_ : List Int, y_ = (([(a0) % 256, (a0 / 256) % 256] : List Int)) := ⟨_, rfl⟩
 replace H : (some (strOfNums y192)) = some r := by first | (rw [hy192]; with_reducible exact H) | (have H2_ := (Option.bind_some _ _).symm.trans H; rw [hy192]; with_reducible exact H2_) | (have H2_ := (Option.bind_some _ _).symm.trans H; with_reducible exact H2_) | with_reducible exact H | (rw [hy192]; exact H) | exact H
 have Ny192 := Aside0.mk hy192
 clear hy192
 obtain rfl := Option.some.inj H
 go_enter Tryz.func64, Tryz.ntmps64
 go_wp2_with (first | ((with_reducible refine gate_dst (N := 8) rfl ?_); refine Kd.R_lit (Kd.int .u8) _ 5 ?hg (N := 8) ?hd (xs := ([(a0) % 256, (a0 / 256) % 256] : List Int)) (inner := [.int .u8 ((a0) % 256), .int .u8 ((a0 / 256) % 256)]) (ok := fun _ => True) (okp := fun _ => True) ?hr ?hp (fun _ hk => hk) trivial (Below.refl _ _) (Nat.le_refl _) (by simp) ?_; (case hd => rfl); (case hg => rfl); (case hr => first | (go_simp; done) | (go_simp; rfl)); (case hp => exact (Reps.one (show Kd.M (Kd.int .u8) _ _ _ ((a0) % 256) [.int .u8 ((a0) % 256)] from rfl) (Reps.one (show Kd.M (Kd.int .u8) _ _ _ ((a0 / 256) % 256) [.int .u8 ((a0 / 256) % 256)] from rfl) (Reps.none _ _)))); intro v193 w2 ho3 hb hg_ hnew_; clear hg_ hnew_; (first | rw [← Ny192.out] at ho3 | (simp only [Int.reduceToNat] at ho3; rw [← Ny192.out] at ho3)); have HO194 := as_ (Kd.R_lower ho3 (below_size bA)); replace HB := as_ (below_step bA hb); clear hb ho3; have hcv4 := own_string (P := Tryz.prog) Tryz.underlying98 Tryz.underlying5 Tryz.underlying9 (Kd.own_of_R HO194.out)))
 go_ret
 exact ⟨eW, bA⟩

/-! ### bits_Mul32: function 113 -/
def bits_Mul32.f (a0 : Int) (a1 : Int) : Option (Int × Int) := some (((IntKind.u64.wrap ((IntKind.u64.wrap (a0)) * (IntKind.u64.wrap (a1)))) / 4294967296) % 4294967296, (IntKind.u64.wrap ((IntKind.u64.wrap (a0)) * (IntKind.u64.wrap (a1)))) % 4294967296)
set_option maxHeartbeats 8000000 in
set_option maxRecDepth 100000 in
theorem bits_Mul32.calls (a0 : Int) (a1 : Int) (r1 : Int) (r2 : Int) (w : World) (h : bits_Mul32.f a0 a1 = some (r1, r2)) :
  Calls Tryz.prog 113 #[.int .u32 a0, .int .u32 a1] w fun e w' => e = .returned (.tuple #[.int .u32 r1, .int .u32 r2]) ∧ Drawn0 w w' := by
 have H : (some (((IntKind.u64.wrap ((IntKind.u64.wrap (a0)) * (IntKind.u64.wrap (a1)))) / 4294967296) % 4294967296, (IntKind.u64.wrap ((IntKind.u64.wrap (a0)) * (IntKind.u64.wrap (a1)))) % 4294967296)) = some (r1, r2) := h
 clear h
 simp only [Option.some.injEq, Prod.mk.injEq] at H
 obtain ⟨rfl, rfl⟩ := H
 go_enter Tryz.func113, Tryz.ntmps113
 go_wp2
 go_ret2
 exact ⟨by first | rfl | (simp; done) | (simp [*]; done), by repeat (first | exact Drawn0.refl _ | apply Drawn0.step)⟩

/-! ### bits_Mul64: function 114 -/
def bits_Mul64.f (a0 : Int) (a1 : Int) : Option (Int × Int) := some (IntKind.u64.wrap ((IntKind.u64.wrap ((IntKind.u64.wrap ((a0 / 4294967296) * (a1 / 4294967296))) + ((IntKind.u64.wrap ((IntKind.u64.wrap ((a0 / 4294967296) * (Go.bits .and .u64 a1 4294967295))) + ((IntKind.u64.wrap ((Go.bits .and .u64 a0 4294967295) * (Go.bits .and .u64 a1 4294967295))) / 4294967296))) / 4294967296))) + ((IntKind.u64.wrap ((Go.bits .and .u64 (IntKind.u64.wrap ((IntKind.u64.wrap ((a0 / 4294967296) * (Go.bits .and .u64 a1 4294967295))) + ((IntKind.u64.wrap ((Go.bits .and .u64 a0 4294967295) * (Go.bits .and .u64 a1 4294967295))) / 4294967296))) 4294967295) + (IntKind.u64.wrap ((Go.bits .and .u64 a0 4294967295) * (a1 / 4294967296))))) / 4294967296)), IntKind.u64.wrap (a0 * a1))
set_option maxHeartbeats 8000000 in
set_option maxRecDepth 100000 in
theorem bits_Mul64.calls (a0 : Int) (a1 : Int) (r1 : Int) (r2 : Int) (w : World) (h : bits_Mul64.f a0 a1 = some (r1, r2)) :
  Calls Tryz.prog 114 #[.int .u64 a0, .int .u64 a1] w fun e w' => e = .returned (.tuple #[.int .u64 r1, .int .u64 r2]) ∧ Drawn0 w w' := by
 have H : (some (IntKind.u64.wrap ((IntKind.u64.wrap ((IntKind.u64.wrap ((a0 / 4294967296) * (a1 / 4294967296))) + ((IntKind.u64.wrap ((IntKind.u64.wrap ((a0 / 4294967296) * (Go.bits .and .u64 a1 4294967295))) + ((IntKind.u64.wrap ((Go.bits .and .u64 a0 4294967295) * (Go.bits .and .u64 a1 4294967295))) / 4294967296))) / 4294967296))) + ((IntKind.u64.wrap ((Go.bits .and .u64 (IntKind.u64.wrap ((IntKind.u64.wrap ((a0 / 4294967296) * (Go.bits .and .u64 a1 4294967295))) + ((IntKind.u64.wrap ((Go.bits .and .u64 a0 4294967295) * (Go.bits .and .u64 a1 4294967295))) / 4294967296))) 4294967295) + (IntKind.u64.wrap ((Go.bits .and .u64 a0 4294967295) * (a1 / 4294967296))))) / 4294967296)), IntKind.u64.wrap (a0 * a1))) = some (r1, r2) := h
 clear h
 simp only [Option.some.injEq, Prod.mk.injEq] at H
 obtain ⟨rfl, rfl⟩ := H
 go_enter Tryz.func114, Tryz.ntmps114
 go_wp2
 go_ret2
 exact ⟨by first | rfl | (simp; done) | (simp [*]; done), by repeat (first | exact Drawn0.refl _ | apply Drawn0.step)⟩

/-! ### bits_Mul: function 94 -/
def bits_Mul.f (a0 : Int) (a1 : Int) : Option (Int × Int) := (bits_Mul64.f a0 a1).bind fun bt195 => (some (bt195.1, bt195.2))
set_option maxHeartbeats 8000000 in
set_option maxRecDepth 100000 in
theorem bits_Mul.calls (a0 : Int) (a1 : Int) (r1 : Int) (r2 : Int) (w : World) (h : bits_Mul.f a0 a1 = some (r1, r2)) :
  Calls Tryz.prog 94 #[.int .u64 a0, .int .u64 a1] w fun e w' => e = .returned (.tuple #[.int .u64 r1, .int .u64 r2]) ∧ Drawn0 w w' := by
 have H : ((bits_Mul64.f a0 a1).bind fun bt195 => (some (bt195.1, bt195.2))) = some (r1, r2) := h
 clear h
 obtain ⟨⟨t195, t196⟩, A3, H⟩ := bN H
 (try dsimp only at H)
 simp only [Option.some.injEq, Prod.mk.injEq] at H
 obtain ⟨rfl, rfl⟩ := H
 go_enter Tryz.func94, Tryz.ntmps94
 go_wp2_with (first | ((with_reducible refine gate_callee (f := 114) rfl ?_); refine goesL_ (some 25) rfl rfl Tryz.func114 (by kernel_rfl) rfl #[.int .u64 a0, .int .u64 a1] rfl aO ?_; (with_reducible refine (bits_Mul64.calls a0 a1 t195 t196 _ A3.out).mono ?_); rintro e w' ⟨rfl, ⟨nd, rfl⟩⟩; refine ⟨_, rfl, ?_⟩))
 go_ret2
 exact ⟨by first | rfl | (simp; done) | (simp [*]; done), by repeat (first | exact Drawn0.refl _ | apply Drawn0.step)⟩

/-! ### stringslite_HasPrefix: function 115 -/
def stringslite_HasPrefix.f (a0 : ByteArray) (a1 : ByteArray) : Option (Bool) := if (a0.size : Int) ≥ (a1.size : Int) then (if 0 ≤ (a1.size : Int) then (if (a1.size : Int) ≤ (a0.size : Int) then (some ((a0.extract 0 a1.size).toList == a1.toList)) else (none)) else (none)) else (some false)
set_option maxHeartbeats 8000000 in
set_option maxRecDepth 100000 in
theorem stringslite_HasPrefix.calls (a0 : ByteArray) (a1 : ByteArray) (r : Bool) (w : World) (h : stringslite_HasPrefix.f a0 a1 = some r) :
  Calls Tryz.prog 115 #[.string a0, .string a1] w fun e w' => e = .returned (.bool r) ∧ Drawn0 w w' := by
 have H : (if (a0.size : Int) ≥ (a1.size : Int) then (if 0 ≤ (a1.size : Int) then (if (a1.size : Int) ≤ (a0.size : Int) then (some ((a0.extract 0 a1.size).toList == a1.toList)) else (none)) else (none)) else (some false)) = some r := h
 clear h
 by_cases c3 : (a0.size : Int) ≥ (a1.size : Int)
 rotate_left
 ·rw [if_neg c3] at H
  have c3b0 : decide ((a1.size : Int) ≤ (a0.size : Int)) = false := decide_eq_false c3
  have c3b1 : decide (a1.size ≤ a0.size) = false := decide_eq_false (fun h => c3 (Int.ofNat_le.mpr h))
  clear c3
  obtain rfl := Option.some.inj H
  go_enter Tryz.func115, Tryz.ntmps115
  go_wp2
  go_ret
  exact ⟨by first | rfl | (simp; done) | (simp [*]; done), by repeat (first | exact Drawn0.refl _ | apply Drawn0.step)⟩
 
 rw [if_pos c3] at H
 have c3b0 : decide ((a1.size : Int) ≤ (a0.size : Int)) = true := decide_eq_true c3
 have c3b1 : decide (a1.size ≤ a0.size) = true := decide_eq_true (Int.ofNat_le.mp c3)
 clear c3
 obtain ⟨c4, H⟩ := iN (c := 0 ≤ (a1.size : Int)) H
 have c4b0 := eq_true c4
 have c4b1 : decide (0 ≤ (a1.size : Int)) = true := decide_eq_true c4
 clear c4
 obtain ⟨c5, H⟩ := iN (c := (a1.size : Int) ≤ (a0.size : Int)) H
 have c5b0 := eq_true c5
 have c5b1 : decide ((a1.size : Int) ≤ (a0.size : Int)) = true := decide_eq_true c5
 clear c5
 obtain ⟨js6, hjs6⟩ : ∃ j_ : ByteArray, (a0.extract 0 a1.size) = j_ := ⟨_, rfl⟩
 replace H : (some ((js6).toList == a1.toList)) = some r := by first | (rw [hjs6] at H; exact H) | (simp only [hjs6] at H ⊢; exact H)
 obtain rfl := Option.some.inj H
 go_enter Tryz.func115, Tryz.ntmps115
 go_wp2
 go_ret
 exact ⟨by first | rfl | (simp; done) | (simp only [← hjs6] <;> (first | rfl | simp)) | (simp [*]; done), by repeat (first | exact Drawn0.refl _ | apply Drawn0.step)⟩
/-! ### strings_HasPrefix: function 95 -/
def strings_HasPrefix.f (a0 : ByteArray) (a1 : ByteArray) : Option (Bool) := (stringslite_HasPrefix.f a0 a1).bind fun t197 => (some t197)
set_option maxHeartbeats 8000000 in
set_option maxRecDepth 100000 in
theorem strings_HasPrefix.calls (a0 : ByteArray) (a1 : ByteArray) (r : Bool) (w : World) (h : strings_HasPrefix.f a0 a1 = some r) :
  Calls Tryz.prog 95 #[.string a0, .string a1] w fun e w' => e = .returned (.bool r) ∧ Drawn0 w w' := by
 have H : ((stringslite_HasPrefix.f a0 a1).bind fun t197 => (some t197)) = some r := h
 clear h
 obtain ⟨t197, A3, H⟩ := bN H
 (try dsimp only at H)
 obtain rfl := Option.some.inj H
 go_enter Tryz.func95, Tryz.ntmps95
 go_wp2_with (first | ((with_reducible refine gate_callee (f := 115) rfl ?_); refine goesL_ (some 7) rfl rfl Tryz.func115 (by kernel_rfl) rfl #[.string a0, .string a1] rfl aO ?_; (with_reducible refine (stringslite_HasPrefix.calls a0 a1 t197 _ A3.out).mono ?_); rintro e w' ⟨rfl, ⟨nd, rfl⟩⟩; refine ⟨_, rfl, ?_⟩))
 go_ret
 exact ⟨by first | rfl | (simp; done) | (simp [*]; done), by repeat (first | exact Drawn0.refl _ | apply Drawn0.step)⟩

-- NOT PRINTED: function 98 (strings_Builder_Len)

/-! ### strings_Repeat: function 65, by hand -/
def strings_Repeat.f (a0 : ByteArray) (a1 : Int) : Option (ByteArray) := if 0 ≤ a1 then (if a1 ≤ 9223372036854775807 then (if a0.size * a1.toNat ≤ 140737488355328 then (some (⟨(Lib.repeatL a0.data.toList a1.toNat).toArray⟩ : ByteArray)) else (none)) else (none)) else (none)
theorem strings_Repeat.calls (a0 : ByteArray) (a1 : Int) (r : ByteArray) (w : World) (h : strings_Repeat.f a0 a1 = some r) :
  Calls Tryz.prog 65 #[.string a0, .int .i64 a1] w fun e w' => e = .returned (.string r) ∧ Below w.heap.size w w' := by
 unfold strings_Repeat.f at h
 by_cases h0 : 0 ≤ a1
 rotate_left
 ·rw [if_neg h0] at h
  cases h
 
 
 by_cases h1 : a1 ≤ 9223372036854775807
 rotate_left
 ·rw [if_pos h0, if_neg h1] at h
  cases h
 by_cases h2 : a0.size * a1.toNat ≤ 140737488355328
 rotate_left
 ·rw [if_pos h0, if_pos h1, if_neg h2] at h
  cases h
 rw [if_pos h0, if_pos h1, if_pos h2] at h
 injection h with h
 subst h
 obtain ⟨n, rfl⟩ := Int.eq_ofNat_of_zero_le h0
 rw [Int.toNat_natCast] at h2 ⊢
 exact Tryz.strings_Repeat a0 n w (by omega) h2
/-! ### slot_Pack: function 34 -/
mutual
def slot_Pack.j0 : Nat → Int → ByteArray → List ByteArray → Bool → Option (ByteArray × Int)
 | 0, _, _, _, _ => none
 | k + 1, x0, x1, x2, x17 => if x17 = true then (some ((⟨#[]⟩ : ByteArray), 4)) else ((slot_Size.f x1 x2).bind fun t198 => (if t198 > x0 then (some ((⟨#[]⟩ : ByteArray), 8)) else (slot_Pack.l0 k x0 x1 (⟨#[]⟩ : ByteArray) x2 (x2.length : Int) 0)))
def slot_Pack.l0 : Nat → Int → ByteArray → ByteArray → List ByteArray → Int → Int → Option (ByteArray × Int)
 | 0, _, _, _, _, _, _ => none
 | k + 1, x0, x8, x9, x24, x25, x26 => if x26 < x25 then (if 0 ≤ x26 then (if x26 < (x24.length : Int) then ((slot_place.f (x8.size : Int)).bind fun t200 => (if t200.size + x9.size ≤ 9223372036854775807 then (if x8.size + (rdOf ByteArray.empty x24 x26).size ≤ 9223372036854775807 then (slot_Pack.l0 k x0 (x8 ++ (rdOf ByteArray.empty x24 x26)) (t200 ++ x9) x24 x25 (wrap64 (x26 + 1))) else (none)) else (none))) else (none)) else (none)) else ((slot_place.f (x8.size : Int)).bind fun t201 => (if t201.size + x9.size ≤ 9223372036854775807 then ((strings_Repeat.f (⟨#[0]⟩ : ByteArray) (wrap64 ((wrap64 (x0 - (x8.size : Int))) - ((t201 ++ x9).size : Int)))).bind fun t202 => (if x8.size + t202.size ≤ 9223372036854775807 then (if (x8 ++ t202).size + (t201 ++ x9).size ≤ 9223372036854775807 then (some ((x8 ++ t202) ++ (t201 ++ x9), 0)) else (none)) else (none))) else (none)))
end
def slot_Pack.f (k : Nat) (a0 : Int) (a1 : ByteArray) (l2 : List ByteArray) : Option (ByteArray × Int) := if a0 < 0 then (slot_Pack.j0 k a0 a1 l2 true) else (slot_Pack.j0 k a0 a1 l2 (decide (a0 > 65535)))
theorem slot_Pack.mono_l : ∀ k, (∀ y0 y1 y2 y3, LeO (slot_Pack.j0 k y0 y1 y2 y3) (slot_Pack.j0 (k + 1) y0 y1 y2 y3)) ∧ (∀ y0 y1 y2 y3 y4 y5, LeO (slot_Pack.l0 k y0 y1 y2 y3 y4 y5) (slot_Pack.l0 (k + 1) y0 y1 y2 y3 y4 y5))
 | 0 => ⟨fun _ _ _ _ r h => by simp [slot_Pack.j0] at h, fun _ _ _ _ _ _ r h => by simp [slot_Pack.l0] at h⟩
 | k + 1 => by
  obtain ⟨ih0, ih1⟩ := slot_Pack.mono_l k
  refine ⟨?_, ?_⟩
  ·intro y0 y1 y2 y3
   unfold slot_Pack.j0
   repeat' first
   | (with_reducible exact ih0 _ _ _ _)
   | (with_reducible exact ih1 _ _ _ _ _ _)
   | (with_reducible exact LeO.refl _)
   | (with_reducible exact LeO.none _)
   | (with_reducible refine LeO.ite ?_ ?_)
   | (with_reducible refine LeO.bind ?_ (fun _ => ?_))
   | exact ih0 _ _ _ _
   | exact ih1 _ _ _ _ _ _
   | exact LeO.none _
   | refine LeO.ite ?_ ?_
   | refine LeO.bind ?_ (fun _ => ?_)
  ·intro y0 y1 y2 y3 y4 y5
   unfold slot_Pack.l0
   repeat' first
   | (with_reducible exact ih0 _ _ _ _)
   | (with_reducible exact ih1 _ _ _ _ _ _)
   | (with_reducible exact LeO.refl _)
   | (with_reducible exact LeO.none _)
   | (with_reducible refine LeO.ite ?_ ?_)
   | (with_reducible refine LeO.bind ?_ (fun _ => ?_))
   | exact ih0 _ _ _ _
   | exact ih1 _ _ _ _ _ _
   | exact LeO.none _
   | refine LeO.ite ?_ ?_
   | refine LeO.bind ?_ (fun _ => ?_)
theorem slot_Pack.mono : ∀ a0 a1 a2 k, LeO (slot_Pack.f k a0 a1 a2) (slot_Pack.f (k + 1) a0 a1 a2) := by
 intro a0 a1 a2 k
 obtain ⟨ih0, ih1⟩ := slot_Pack.mono_l k
 unfold slot_Pack.f
 repeat' first
   | (with_reducible exact ih0 _ _ _ _)
   | (with_reducible exact ih1 _ _ _ _ _ _)
   | (with_reducible exact LeO.refl _)
   | (with_reducible exact LeO.none _)
   | (with_reducible refine LeO.ite ?_ ?_)
   | (with_reducible refine LeO.bind ?_ (fun _ => ?_))
   | exact ih0 _ _ _ _
   | exact ih1 _ _ _ _ _ _
   | exact LeO.none _
   | refine LeO.ite ?_ ?_
   | refine LeO.bind ?_ (fun _ => ?_)
set_option maxHeartbeats 8000000 in
set_option maxRecDepth 100000 in
theorem slot_Pack.calls (k : Nat) (a0 : Int) (a1 : ByteArray) (A2 : Option Addr) (c2 : Nat) (l2 : List ByteArray) (r1 : ByteArray) (r2 : Int) (w : World) (hr2 : Kd.C Kd.string w A2 l2.length l2) (hc2 : l2.length ≤ c2) (h : slot_Pack.f k a0 a1 l2 = some (r1, r2)) :
  Calls Tryz.prog 34 #[.int .i64 a0, .string a1, .slice A2 l2.length c2] w fun e w' => e = .returned (.tuple #[.string r1, .int .i64 r2]) ∧ Below w.heap.size w w' := by
 have HR2 := Aside0.mk hr2
 have HC2 := Aside0.mk hc2
 clear hr2 hc2
 have HB := as_ (Below.refl w.heap.size w)
 have H : (if a0 < 0 then (slot_Pack.j0 k a0 a1 l2 true) else (slot_Pack.j0 k a0 a1 l2 (decide (a0 > 65535)))) = some (r1, r2) := h
 clear h
 have HC4 := Aside0.mk H
 clear H
 go_enter Tryz.func34, Tryz.ntmps34
 go_upto_region 1 with (fail)
 go_cut [17] (fun v17 wc => ∃ (kq : Nat) (x17_3 : Bool), v17 = .bool x17_3 ∧ Aside0 (slot_Pack.j0 kq a0 a1 l2 x17_3 = some (r1, r2)) ∧ Aside0 (kq ≤ k) ∧ Aside0 (Below w.heap.size w wc))
 case first =>
  have H := HC4.out
  clear HC4
  by_cases c5 : a0 < 0
  rotate_left
  ·rw [if_neg c5] at H
   have c5b0 : decide (a0 < 0) = false := decide_eq_false c5
   clear c5
   (first | rw [c5b0] | (simp only [i64_w, i32_w]; rw [c5b0]) | rw [c5b1] | skip)
   have H' := Aside0.mk H
   clear H
   go_wp2
   go_meet
   case rel => exact ⟨_, (decide (a0 > 65535)), (by first | rfl | (simp; done) | (simp [*]; done)), H', ⟨by first | omega | exact Nat.le_refl _⟩, ⟨bA⟩⟩
  rw [if_pos c5] at H
  have c5b0 : decide (a0 < 0) = true := decide_eq_true c5
  clear c5
  (first | rw [c5b0] | (simp only [i64_w, i32_w]; rw [c5b0]) | rw [c5b1] | skip)
  have H' := Aside0.mk H
  clear H
  go_wp2
  go_meet
  case rel => exact ⟨_, (true), (by first | rfl | (simp; done) | (simp [*]; done)), H', ⟨by first | omega | exact Nat.le_refl _⟩, ⟨bA⟩⟩
 case rest =>
  clear HC4
  try clear c2
  try clear p2
  try clear c3
  try clear c5
  try clear c5b0
  try clear c5b1
  obtain ⟨kq, x17_3, rfl, HA, HJ3, HB⟩ := hcut
  cases kq with
  | zero => exact absurd HA.out (by simp [slot_Pack.j0])
  | succ kj3 =>
   have H := HA.out
   clear HA
   simp only [slot_Pack.j0] at H
   by_cases c6 : x17_3 = true
   ·subst c6
    have H1 : (some ((⟨#[]⟩ : ByteArray), 4)) = some (r1, r2) := by rw [if_pos rfl] at H; exact H
    clear H
    have H := H1
    clear H1
    simp only [Option.some.injEq, Prod.mk.injEq] at H
    obtain ⟨rfl, rfl⟩ := H
    go_wp2
    go_ret2
    exact ⟨eW, bA⟩
   replace c6 := Bool.eq_false_iff.mpr c6
   subst c6
   have H1 : ((slot_Size.f a1 l2).bind fun t198 => (if t198 > a0 then (some ((⟨#[]⟩ : ByteArray), 8)) else (slot_Pack.l0 kj3 a0 a1 (⟨#[]⟩ : ByteArray) l2 (l2.length : Int) 0))) = some (r1, r2) := by rw [if_neg (show ¬ (false = true) by decide)] at H; exact H
   clear H
   have H := H1
   clear H1
   obtain ⟨t198, A7, H⟩ := bN H
   (try dsimp only at H)
   by_cases c8 : t198 > a0
   ·rw [if_pos c8] at H
    have c8b0 : decide (a0 < t198) = true := decide_eq_true c8
    clear c8
    simp only [Option.some.injEq, Prod.mk.injEq] at H
    obtain ⟨rfl, rfl⟩ := H
    go_wp2_with (first | ((with_reducible refine gate_callee (f := 55) rfl ?_); refine goesL_ (some 20) rfl rfl Tryz.func55 (by kernel_rfl) rfl #[.string a1, .slice A2 l2.length c2] rfl aO ?_; (with_reducible refine (slot_Size.calls a1 _ _ l2 t198 _ ?side1 ?side2 A7.out).mono ?_); (case side1 => repeat (first | exact (Kd.C_below HR2.out HB.out) | (with_reducible refine Kd.C_alloc ?_ _) | (with_reducible refine Kd.C_drewN ?_ _) | (with_reducible refine Kd.C_drew ?_))); (case side2 => exact HC2.out); rintro e w9 ⟨rfl, hb⟩; refine ⟨_, rfl, ?_⟩; replace HB := as_ (below_step bA hb); (try clear hb); (try clear hi)))
    go_ret2
    exact ⟨eW, bA⟩
   rw [if_neg c8] at H
   have c8b0 : decide (a0 < t198) = false := decide_eq_false c8
   clear c8
   have H' := Aside0.mk H
   clear H
   go_wp2_with (first | ((with_reducible refine gate_callee (f := 55) rfl ?_); refine goesL_ (some 20) rfl rfl Tryz.func55 (by kernel_rfl) rfl #[.string a1, .slice A2 l2.length c2] rfl aO ?_; (with_reducible refine (slot_Size.calls a1 _ _ l2 t198 _ ?side1 ?side2 A7.out).mono ?_); (case side1 => repeat (first | exact (Kd.C_below HR2.out HB.out) | (with_reducible refine Kd.C_alloc ?_ _) | (with_reducible refine Kd.C_drewN ?_ _) | (with_reducible refine Kd.C_drew ?_))); (case side2 => exact HC2.out); rintro e w10 ⟨rfl, hb⟩; refine ⟨_, rfl, ?_⟩; replace HB := as_ (below_step bA hb); (try clear hb); (try clear hi)))
   go_loopg [8, 9, 26] kj3 (fun kq v8 v9 v26 w' => ∃ (x8_2 : ByteArray) (x9_2 : ByteArray) (x26_2 : Int), v8 = .string x8_2 ∧ v9 = .string x9_2 ∧ v26 = .int .i64 x26_2 ∧ Aside0 (slot_Pack.l0 kq a0 x8_2 x9_2 l2 (l2.length : Int) x26_2 = some (r1, r2)) ∧ Aside0 (kq ≤ kj3) ∧ Aside0 (Below w.heap.size w w'))
   case atStart => exact ⟨(a1), ((⟨#[]⟩ : ByteArray)), (0), (by first | rfl | (simp; done) | (simp [*]; done)), (by first | rfl | (simp; done) | (simp [*]; done)), (by first | rfl | (simp; done) | (simp [*]; done)), H', ⟨Nat.le_refl _⟩, ⟨bA⟩⟩
   case round =>
    clear H'
    try clear c2
    try clear p2
    try clear c3
    try clear c5
    try clear c5b0
    try clear c5b1
    try clear c6
    try clear c8
    try clear c8b0
    try clear p2
    obtain ⟨x8_2, x9_2, x26_2, rfl, rfl, rfl, HA, HK2, HB⟩ := hrel
    cases gk with
    | zero => exact absurd HA.out (by simp [slot_Pack.l0])
    | succ k2 =>
     have H := HA.out
     clear HA
     simp only [slot_Pack.l0] at H
     by_cases c11 : x26_2 < (l2.length : Int)
     rotate_left
     ·rw [if_neg c11] at H
      have c11b0 := decide_eq_false c11
      clear c11
      obtain ⟨t201, A20, H⟩ := bN H
      (try dsimp only at H)
      obtain ⟨c21, H⟩ := iN (c := t201.size + x9_2.size ≤ 9223372036854775807) H
      have c21b0 := eq_true c21
      have c21b1 := decide_eq_true c21
      try have c21b2 : (9223372036854775807 < t201.size + x9_2.size) = False := eq_false (Nat.not_lt.2 c21)
      obtain ⟨js22, hjs22⟩ : ∃ j_ : ByteArray, (t201 ++ x9_2) = j_ := ⟨_, rfl⟩
      replace H : ((strings_Repeat.f (⟨#[0]⟩ : ByteArray) (wrap64 ((wrap64 (a0 - (x8_2.size : Int))) - ((js22).size : Int)))).bind fun t202 => (if x8_2.size + t202.size ≤ 9223372036854775807 then (if (x8_2 ++ t202).size + (js22).size ≤ 9223372036854775807 then (some ((x8_2 ++ t202) ++ (js22), 0)) else (none)) else (none))) = some (r1, r2) := by first | (rw [hjs22] at H; exact H) | (simp only [hjs22] at H ⊢; exact H)
      (try rw [hjs22] at A20)
      obtain ⟨t202, A23, H⟩ := bN H
      (try dsimp only at H)
      obtain ⟨c24, H⟩ := iN (c := x8_2.size + t202.size ≤ 9223372036854775807) H
      have c24b0 := eq_true c24
      have c24b1 := decide_eq_true c24
      try have c24b2 : (9223372036854775807 < x8_2.size + t202.size) = False := eq_false (Nat.not_lt.2 c24)
      obtain ⟨js25, hjs25⟩ : ∃ j_ : ByteArray, (x8_2 ++ t202) = j_ := ⟨_, rfl⟩
      replace H : (if (js25).size + (js22).size ≤ 9223372036854775807 then (some ((js25) ++ (js22), 0)) else (none)) = some (r1, r2) := by first | (rw [hjs25] at H; exact H) | (simp only [hjs25] at H ⊢; exact H)
      (try rw [hjs25] at A20)
      (try rw [hjs25] at A23)
      obtain ⟨c26, H⟩ := iN (c := (js25).size + (js22).size ≤ 9223372036854775807) H
      have c26b0 := eq_true c26
      have c26b1 := decide_eq_true c26
      try have c26b2 : (9223372036854775807 < (js25).size + (js22).size) = False := eq_false (Nat.not_lt.2 c26)
      obtain ⟨js27, hjs27⟩ : ∃ j_ : ByteArray, ((js25) ++ (js22)) = j_ := ⟨_, rfl⟩
      replace H : (some (js27, 0)) = some (r1, r2) := by first | (rw [hjs27] at H; exact H) | (simp only [hjs27] at H ⊢; exact H)
      (try rw [hjs27] at A20)
      (try rw [hjs27] at A23)
      simp only [Option.some.injEq, Prod.mk.injEq] at H
      obtain ⟨rfl, rfl⟩ := H
      go_wp2_with (first | ((with_reducible refine gate_callee (f := 64) rfl ?_); refine goesL_ (some 41) rfl rfl Tryz.func64 (by kernel_rfl) rfl #[.int .i64 (x8_2.size : Int)] rfl aO ?_; (with_reducible refine (slot_place.calls (x8_2.size : Int) t201 _ A20.out).mono ?_); rintro e w28 ⟨rfl, hb⟩; refine ⟨_, rfl, ?_⟩; replace HB := as_ (below_step bA hb); (try clear hb); (try clear hi)) | ((with_reducible refine gate_callee (f := 65) rfl ?_); refine goesL_ (some 52) rfl rfl Tryz.func65 (by kernel_rfl) rfl #[.string (⟨#[0]⟩ : ByteArray), .int .i64 (wrap64 ((wrap64 (a0 - (x8_2.size : Int))) - ((js22).size : Int)))] rfl aO ?_; (with_reducible refine (strings_Repeat.calls (⟨#[0]⟩ : ByteArray) (wrap64 ((wrap64 (a0 - (x8_2.size : Int))) - ((js22).size : Int))) t202 _ A23.out).mono ?_); rintro e w29 ⟨rfl, hb⟩; refine ⟨_, rfl, ?_⟩; replace HB := as_ (below_step bA hb); (try clear hb); (try clear hi)))
      go_ret2
      exact ⟨by first | rfl | (simp [errW_none, errW_some] <;> rfl) | (simp only [← hjs22, ← hjs25, ← hjs27]; first | rfl | (simp [errW_none, errW_some] <;> rfl)) | (simp [*, errW_none, errW_some] <;> rfl), bA⟩
     rw [if_pos c11] at H
     have c11b0 := decide_eq_true c11
     clear c11
     obtain ⟨c12, H⟩ := iN (c := 0 ≤ x26_2) H
     have c12b0 := decide_eq_true c12
     clear c12
     obtain ⟨c13, H⟩ := iN (c := x26_2 < (l2.length : Int)) H
     have c13b0 := decide_eq_true c13
     clear c13
     obtain ⟨t200, A14, H⟩ := bN H
     (try dsimp only at H)
     obtain ⟨c15, H⟩ := iN (c := t200.size + x9_2.size ≤ 9223372036854775807) H
     have c15b0 := eq_true c15
     have c15b1 := decide_eq_true c15
     try have c15b2 : (9223372036854775807 < t200.size + x9_2.size) = False := eq_false (Nat.not_lt.2 c15)
     obtain ⟨js16, hjs16⟩ : ∃ j_ : ByteArray, (t200 ++ x9_2) = j_ := ⟨_, rfl⟩
     replace H : (if x8_2.size + (rdOf ByteArray.empty l2 x26_2).size ≤ 9223372036854775807 then (slot_Pack.l0 k2 a0 (x8_2 ++ (rdOf ByteArray.empty l2 x26_2)) js16 l2 (l2.length : Int) (wrap64 (x26_2 + 1))) else (none)) = some (r1, r2) := by first | (rw [hjs16] at H; exact H) | (simp only [hjs16] at H ⊢; exact H)
     (try rw [hjs16] at A14)
     obtain ⟨c17, H⟩ := iN (c := x8_2.size + (rdOf ByteArray.empty l2 x26_2).size ≤ 9223372036854775807) H
     have c17b0 := eq_true c17
     have c17b1 := decide_eq_true c17
     try have c17b2 : (9223372036854775807 < x8_2.size + (rdOf ByteArray.empty l2 x26_2).size) = False := eq_false (Nat.not_lt.2 c17)
     obtain ⟨js18, hjs18⟩ : ∃ j_ : ByteArray, (x8_2 ++ (rdOf ByteArray.empty l2 x26_2)) = j_ := ⟨_, rfl⟩
     replace H : (slot_Pack.l0 k2 a0 js18 js16 l2 (l2.length : Int) (wrap64 (x26_2 + 1))) = some (r1, r2) := by first | (rw [hjs18] at H; exact H) | (simp only [hjs18] at H ⊢; exact H)
     (try rw [hjs18] at A14)
     have H' := Aside0.mk H
     clear H
     have p199 : 0 ≤ (x26_2 : Int) := of_decide_eq_true aM
     have q199 : x26_2 < (l2.length : Int) := of_decide_eq_true aM
     obtain ⟨ad199, e199, hx199_0⟩ := Kd.at_string HR2.out x26_2 p199 q199
     cases e199
     replace hx199_0 := (HB.out.cell (World.block_lt_of_cell? w _ hx199_0)).trans hx199_0
     replace p199 := eq_true p199
     replace q199 := eq_true q199
     go_wp2_with (first | ((with_reducible refine gate_callee (f := 64) rfl ?_); refine goesL_ (some 32) rfl rfl Tryz.func64 (by kernel_rfl) rfl #[.int .i64 (x8_2.size : Int)] rfl aO ?_; (with_reducible refine (slot_place.calls (x8_2.size : Int) t200 _ A14.out).mono ?_); rintro e w19 ⟨rfl, hb⟩; refine ⟨_, rfl, ?_⟩; replace HB := as_ (below_step bA hb); (try clear hb); (try clear hi)))
     go_roundg k2
     case measure => have := HJ3.out; have := HK2.out; omega
     case rel => exact ⟨(js18), (js16), (wrap64 (x26_2 + 1)), (by first | rfl | (simp; done) | (simp only [← hjs18] <;> (first | rfl | simp)) | (simp [*]; done)), (by first | rfl | (simp; done) | (simp only [← hjs16] <;> (first | rfl | simp)) | (simp [*]; done)), (by first | rfl | (simp; done) | (simp [*]; done)), H', ⟨by have := HJ3.out; have := HK2.out; omega⟩, ⟨bA⟩⟩
-- NOT PRINTED: function 118 (reflectlite_TypeOf)

-- NOT PRINTED: function 119 (errors_is)

-- NOT PRINTED: function 100 (errors_Is)

-- NOT PRINTED: function 66 (head_number)

-- NOT PRINTED: function 120 (errors_Join)

-- NOT PRINTED: function 121 (errors_New)

-- NOT PRINTED: function 101 (head_fault)

/-! ### head_within: function 122 -/
def head_within.l0 : Nat → Int → List Int → Int → Int → Option (Bool)
 | 0, _, _, _, _ => none
 | k + 1, x0, x7, x8, x9 => if x9 < x8 then (if 0 ≤ x9 then (if x9 < (x7.length : Int) then (if (rd x7 x9) < 0 then (some false) else (if (rd x7 x9) ≥ x0 then (some false) else (head_within.l0 k x0 x7 x8 (wrap64 (x9 + 1))))) else (none)) else (none)) else (some true)
def head_within.f (k : Nat) (a0 : Int) (l1 : List Int) : Option (Bool) := head_within.l0 k a0 l1 (l1.length : Int) 0
theorem head_within.mono_l : ∀ k, (∀ y0 y1 y2 y3, LeO (head_within.l0 k y0 y1 y2 y3) (head_within.l0 (k + 1) y0 y1 y2 y3))
 | 0 => fun _ _ _ _ r h => by simp [head_within.l0] at h
 | k + 1 => by
  have ih0 := head_within.mono_l k
  ·intro y0 y1 y2 y3
   unfold head_within.l0
   repeat' first
   | (with_reducible exact ih0 _ _ _ _)
   | (with_reducible exact LeO.refl _)
   | (with_reducible exact LeO.none _)
   | (with_reducible refine LeO.ite ?_ ?_)
   | (with_reducible refine LeO.bind ?_ (fun _ => ?_))
   | exact ih0 _ _ _ _
   | exact LeO.none _
   | refine LeO.ite ?_ ?_
   | refine LeO.bind ?_ (fun _ => ?_)
theorem head_within.mono : ∀ a0 a1 k, LeO (head_within.f k a0 a1) (head_within.f (k + 1) a0 a1) := by
 intro a0 a1 k
 have ih0 := head_within.mono_l k
 unfold head_within.f
 repeat' first
   | (with_reducible exact ih0 _ _ _ _)
   | (with_reducible exact LeO.refl _)
   | (with_reducible exact LeO.none _)
   | (with_reducible refine LeO.ite ?_ ?_)
   | (with_reducible refine LeO.bind ?_ (fun _ => ?_))
   | exact ih0 _ _ _ _
   | exact LeO.none _
   | refine LeO.ite ?_ ?_
   | refine LeO.bind ?_ (fun _ => ?_)
set_option maxHeartbeats 8000000 in
set_option maxRecDepth 100000 in
theorem head_within.calls (k : Nat) (a0 : Int) (A1 : Option Addr) (c1 : Nat) (l1 : List Int) (r : Bool) (w : World) (hr1 : Kd.C (Kd.int .i64) w A1 l1.length l1) (hc1 : l1.length ≤ c1) (h : head_within.f k a0 l1 = some r) :
  Calls Tryz.prog 122 #[.int .i64 a0, .slice A1 l1.length c1] w fun e w' => e = .returned (.bool r) ∧ Drawn0 w w' := by
 have HR1 := Aside0.mk hr1
 have HC1 := Aside0.mk hc1
 clear hr1 hc1
 have H : (head_within.l0 k a0 l1 (l1.length : Int) 0) = some r := h
 clear h
 have H' := Aside0.mk H
 clear H
 go_enter Tryz.func122, Tryz.ntmps122
 go_wp2
 go_loopg [9] k (fun kq v9 w' => ∃ (x9_1 : Int), v9 = .int .i64 x9_1 ∧ Aside0 (head_within.l0 kq a0 l1 (l1.length : Int) x9_1 = some r) ∧ Aside0 (kq ≤ k) ∧ Drawn0 w w')
 case atStart => exact ⟨(0), (by first | rfl | (simp; done) | (simp [*]; done)), H', ⟨Nat.le_refl _⟩, by repeat (first | exact Drawn0.refl _ | apply Drawn0.step)⟩
 case round =>
  clear H'
  try clear c1
  try clear p2
  obtain ⟨x9_1, rfl, HA, HK1, ⟨m1, rfl⟩⟩ := hrel
  cases gk with
  | zero => exact absurd HA.out (by simp [head_within.l0])
  | succ k1 =>
   have H := HA.out
   clear HA
   simp only [head_within.l0] at H
   by_cases c3 : x9_1 < (l1.length : Int)
   rotate_left
   ·rw [if_neg c3] at H
    have c3b0 : decide (x9_1 < (l1.length : Int)) = false := decide_eq_false c3
    clear c3
    obtain rfl := Option.some.inj H
    go_wp2
    go_ret
    exact ⟨by first | rfl | (simp; done) | (simp [*]; done), by repeat (first | exact Drawn0.refl _ | apply Drawn0.step)⟩
 
   rw [if_pos c3] at H
   have c3b0 : decide (x9_1 < (l1.length : Int)) = true := decide_eq_true c3
   clear c3
   obtain ⟨c4, H⟩ := iN (c := 0 ≤ x9_1) H
   have c4b0 : decide (0 ≤ x9_1) = true := decide_eq_true c4
   clear c4
   obtain ⟨c5, H⟩ := iN (c := x9_1 < (l1.length : Int)) H
   have c5b0 : decide (x9_1 < (l1.length : Int)) = true := decide_eq_true c5
   clear c5
   by_cases c6 : (rd l1 x9_1) < 0
   ·rw [if_pos c6] at H
    have c6b0 := decide_eq_true c6
    clear c6
    obtain rfl := Option.some.inj H
    have p210 : 0 ≤ (x9_1 : Int) := of_decide_eq_true aM
    have q210 : x9_1 < (l1.length : Int) := of_decide_eq_true aM
    obtain ⟨ad210, e210, hx210_0⟩ := Kd.at_int HR1.out x9_1 p210 q210
    cases e210
    replace p210 := eq_true p210
    replace q210 := eq_true q210
    go_wp2
    go_ret
    exact ⟨by first | rfl | (simp; done) | (simp [*]; done), by repeat (first | exact Drawn0.refl _ | apply Drawn0.step)⟩
   rw [if_neg c6] at H
   have c6b0 := decide_eq_false c6
   clear c6
   by_cases c7 : (rd l1 x9_1) ≥ a0
   ·rw [if_pos c7] at H
    have c7b0 : decide (a0 ≤ (rd l1 x9_1)) = true := decide_eq_true c7
    clear c7
    obtain rfl := Option.some.inj H
    have p210 : 0 ≤ (x9_1 : Int) := of_decide_eq_true aM
    have q210 : x9_1 < (l1.length : Int) := of_decide_eq_true aM
    obtain ⟨ad210, e210, hx210_0⟩ := Kd.at_int HR1.out x9_1 p210 q210
    cases e210
    replace p210 := eq_true p210
    replace q210 := eq_true q210
    go_wp2
    go_ret
    exact ⟨by first | rfl | (simp; done) | (simp [*]; done), by repeat (first | exact Drawn0.refl _ | apply Drawn0.step)⟩
   rw [if_neg c7] at H
   have c7b0 : decide (a0 ≤ (rd l1 x9_1)) = false := decide_eq_false c7
   clear c7
   have H' := Aside0.mk H
   clear H
   have p210 : 0 ≤ (x9_1 : Int) := of_decide_eq_true aM
   have q210 : x9_1 < (l1.length : Int) := of_decide_eq_true aM
   obtain ⟨ad210, e210, hx210_0⟩ := Kd.at_int HR1.out x9_1 p210 q210
   cases e210
   replace p210 := eq_true p210
   replace q210 := eq_true q210
   go_wp2
   go_roundg k1
   case measure => have := HK1.out; omega
   case rel => exact ⟨(wrap64 (x9_1 + 1)), (by first | rfl | (simp; done) | (simp [*]; done)), H', ⟨by have := HK1.out; omega⟩, by repeat (first | exact Drawn0.refl _ | apply Drawn0.step)⟩
/-! ### head_Right: function 102 -/
def head_Right.f (k : Nat) (a0_0 : Int) (a0_1 : Int) (a0_2 : Int) (a0_3 : Int) (a0_4 : Int) : Option (Bool) := if a0_0 ≥ 1 then (if a0_0 < 5 then ((head_within.f k 256 (([a0_1] : List Int))).bind fun t215 => (if t215 = true then ((head_within.f k 65536 (([a0_2] : List Int))).bind fun t219 => (if t219 = true then ((head_within.f k 4096 (([a0_3, a0_4] : List Int))).bind fun t223 => (some t223)) else (some false))) else (some false))) else (some false)) else (some false)
theorem head_Right.mono : ∀ a0 a1 a2 a3 a4 k, LeO (head_Right.f k a0 a1 a2 a3 a4) (head_Right.f (k + 1) a0 a1 a2 a3 a4) := by
 intro a0 a1 a2 a3 a4 k
 unfold head_Right.f
 repeat' first
   | (with_reducible exact head_within.mono _ _ _)
   | (with_reducible exact LeO.refl _)
   | (with_reducible exact LeO.none _)
   | (with_reducible refine LeO.ite ?_ ?_)
   | (with_reducible refine LeO.bind ?_ (fun _ => ?_))
   | exact head_within.mono _ _ _
   | exact LeO.none _
   | refine LeO.ite ?_ ?_
   | refine LeO.bind ?_ (fun _ => ?_)
set_option maxHeartbeats 8000000 in
set_option maxRecDepth 100000 in
theorem head_Right.calls (k : Nat) (a0_0 : Int) (a0_1 : Int) (a0_2 : Int) (a0_3 : Int) (a0_4 : Int) (r : Bool) (w : World) (h : head_Right.f k a0_0 a0_1 a0_2 a0_3 a0_4 = some r) :
  Calls Tryz.prog 102 #[.agg #[.int .i64 a0_0, .int .i64 a0_1, .int .i64 a0_2, .int .i64 a0_3, .int .i64 a0_4]] w fun e w' => e = .returned (.bool r) ∧ Below w.heap.size w w' := by
 have hu71 := Tryz.underlying71
 have HB := as_ (Below.refl w.heap.size w)
 have H : (if a0_0 ≥ 1 then (if a0_0 < 5 then ((head_within.f k 256 (([a0_1] : List Int))).bind fun t215 => (if t215 = true then ((head_within.f k 65536 (([a0_2] : List Int))).bind fun t219 => (if t219 = true then ((head_within.f k 4096 (([a0_3, a0_4] : List Int))).bind fun t223 => (some t223)) else (some false))) else (some false))) else (some false)) else (some false)) = some r := h
 clear h
 by_cases c2 : a0_0 ≥ 1
 rotate_left
 ·rw [if_neg c2] at H
  have c2b0 : decide (1 ≤ a0_0) = false := decide_eq_false c2
  clear c2
  obtain rfl := Option.some.inj H
  go_enter Tryz.func102, Tryz.ntmps102
  go_wp2_with (first | ((with_reducible refine gate_dst (N := 1) rfl ?_); (try (refine gate_guard (by rfl) ?_; dsimp only)); refine box_event (by rfl) (N := 1) (by rfl) (cs := #[.int .i64 a0_0, .int .i64 a0_1, .int .i64 a0_2, .int .i64 a0_3, .int .i64 a0_4]) (t := 71) gS ?_; intro gb211 hg w38 hbox hb; have BK211 := as_ (hbox); have GW211 := gw hg bA; have GE211 := gw hg bA; replace HB := as_ (below_step bA hb); clear hb hbox hg; obtain ⟨hcz39_0, hcz39_1, hcz39_2, hcz39_3, hcz39_4⟩ := zc5 BK211; obtain ⟨hfz39_0, hfz39_1, hfz39_2, hfz39_3, hfz39_4⟩ := zf5 BK211))
  go_ret
  exact ⟨eW, bA⟩
 
 rw [if_pos c2] at H
 have c2b0 : decide (1 ≤ a0_0) = true := decide_eq_true c2
 clear c2
 by_cases c3 : a0_0 < 5
 rotate_left
 ·rw [if_neg c3] at H
  have c3b0 : decide (a0_0 < 5) = false := decide_eq_false c3
  clear c3
  obtain rfl := Option.some.inj H
  go_enter Tryz.func102, Tryz.ntmps102
  go_wp2_with (first | ((with_reducible refine gate_dst (N := 1) rfl ?_); (try (refine gate_guard (by rfl) ?_; dsimp only)); refine box_event (by rfl) (N := 1) (by rfl) (cs := #[.int .i64 a0_0, .int .i64 a0_1, .int .i64 a0_2, .int .i64 a0_3, .int .i64 a0_4]) (t := 71) gS ?_; intro gb211 hg w36 hbox hb; have BK211 := as_ (hbox); have GW211 := gw hg bA; have GE211 := gw hg bA; replace HB := as_ (below_step bA hb); clear hb hbox hg; obtain ⟨hcz37_0, hcz37_1, hcz37_2, hcz37_3, hcz37_4⟩ := zc5 BK211; obtain ⟨hfz37_0, hfz37_1, hfz37_2, hfz37_3, hfz37_4⟩ := zf5 BK211))
  go_ret
  exact ⟨eW, bA⟩
 rw [if_pos c3] at H
 have c3b0 : decide (a0_0 < 5) = true := decide_eq_true c3
 clear c3
 obtain ⟨y212, hy212⟩ : ∃ y_ : List Int, y_ = (([a0_1] : List Int)) := ⟨_, rfl⟩
 replace H : ((head_within.f k 256 y212).bind fun t215 => (if t215 = true then ((head_within.f k 65536 (([a0_2] : List Int))).bind fun t219 => (if t219 = true then ((head_within.f k 4096 (([a0_3, a0_4] : List Int))).bind fun t223 => (some t223)) else (some false))) else (some false))) = some r := by first | (rw [hy212]; with_reducible exact H) | (have H2_ := (Option.bind_some _ _).symm.trans H; rw [hy212]; with_reducible exact H2_) | (have H2_ := (Option.bind_some _ _).symm.trans H; with_reducible exact H2_) | with_reducible exact H | (rw [hy212]; exact H) | exact H
 have Ny212 := Aside0.mk hy212
 clear hy212
 obtain ⟨t215, A4, H⟩ := bN H
 (try dsimp only at H)
 by_cases c5 : t215 = true
 rotate_left
 ·replace c5 := Bool.eq_false_iff.mpr c5
  subst c5
  have H1 : (some false) = some r := by rw [if_neg (show ¬ (false = true) by decide)] at H; exact H
  clear H
  have H := H1
  clear H1
  obtain rfl := Option.some.inj H
  go_enter Tryz.func102, Tryz.ntmps102
  go_wp2_with (first | ((with_reducible refine gate_dst (N := 1) rfl ?_); (try (refine gate_guard (by rfl) ?_; dsimp only)); refine box_event (by rfl) (N := 1) (by rfl) (cs := #[.int .i64 a0_0, .int .i64 a0_1, .int .i64 a0_2, .int .i64 a0_3, .int .i64 a0_4]) (t := 71) gS ?_; intro gb211 hg w31 hbox hb; have BK211 := as_ (hbox); have GW211 := gw hg bA; have GE211 := gw hg bA; replace HB := as_ (below_step bA hb); clear hb hbox hg; obtain ⟨hcz32_0, hcz32_1, hcz32_2, hcz32_3, hcz32_4⟩ := zc5 BK211; obtain ⟨hfz32_0, hfz32_1, hfz32_2, hfz32_3, hfz32_4⟩ := zf5 BK211) | ((with_reducible refine gate_dst (N := 14) rfl ?_); (try (refine gate_guard (by rfl) ?_; dsimp only)); refine Kd.R_lit (Kd.int .i64) _ 3 ?hg (N := 14) ?hd (xs := ([a0_1] : List Int)) (inner := [.int .i64 a0_1]) (ok := fun _ => True) (okp := fun _ => True) ?hr ?hp (fun _ hk => hk) trivial (Below.refl _ _) (Nat.le_refl _) (by simp) ?_; (case hd => rfl); (case hg => rfl); (case hr => first | (go_simp; done) | (go_simp; rfl)); (case hp => exact (Reps.one (show Kd.M (Kd.int .i64) _ _ _ a0_1 [.int .i64 a0_1] from rfl) (Reps.none _ _))); intro v213 w33 ho34 hb hg_ hnew_; clear hg_ hnew_; (first | rw [← Ny212.out] at ho34 | (simp only [Int.reduceToNat] at ho34; rw [← Ny212.out] at ho34)); have HO214 := as_ (Kd.R_lower ho34 (below_size bA)); replace BK211 := bb BK211 hb; replace HB := as_ (below_step bA hb); clear hb ho34; obtain ⟨Ao35, co35, eo35⟩ := Kd.R_slice HO214.out; subst eo35) | (go_at_call 122; (with_reducible refine (head_within.calls k 256 _ _ y212 false _ ?side1 ?side2 A4.out).mono ?_); (case side1 => repeat (first | exact (Kd.R_reads' HO214.out).2.2 | (with_reducible refine Kd.C_alloc ?_ _) | (with_reducible refine Kd.C_drewN ?_ _) | (with_reducible refine Kd.C_drew ?_))); (case side2 => exact (Kd.R_reads' HO214.out).2.1); rintro e w' ⟨rfl, ⟨nd, rfl⟩⟩))
  go_ret
  exact ⟨eW, bA⟩
 subst c5
 have H1 : ((head_within.f k 65536 (([a0_2] : List Int))).bind fun t219 => (if t219 = true then ((head_within.f k 4096 (([a0_3, a0_4] : List Int))).bind fun t223 => (some t223)) else (some false))) = some r := by rw [if_pos rfl] at H; exact H
 clear H
 have H := H1
 clear H1
 obtain ⟨y216, hy216⟩ : ∃ y_ : List Int, y_ = (([a0_2] : List Int)) := ⟨_, rfl⟩
 replace H : ((head_within.f k 65536 y216).bind fun t219 => (if t219 = true then ((head_within.f k 4096 (([a0_3, a0_4] : List Int))).bind fun t223 => (some t223)) else (some false))) = some r := by first | (rw [hy216]; with_reducible exact H) | (have H2_ := (Option.bind_some _ _).symm.trans H; rw [hy216]; with_reducible exact H2_) | (have H2_ := (Option.bind_some _ _).symm.trans H; with_reducible exact H2_) | with_reducible exact H | (rw [hy216]; exact H) | exact H
 have Ny216 := Aside0.mk hy216
 clear hy216
 obtain ⟨t219, A6, H⟩ := bN H
 (try dsimp only at H)
 by_cases c7 : t219 = true
 rotate_left
 ·replace c7 := Bool.eq_false_iff.mpr c7
  subst c7
  have H1 : (some false) = some r := by rw [if_neg (show ¬ (false = true) by decide)] at H; exact H
  clear H
  have H := H1
  clear H1
  obtain rfl := Option.some.inj H
  go_enter Tryz.func102, Tryz.ntmps102
  go_wp2_with (first | ((with_reducible refine gate_dst (N := 1) rfl ?_); (try (refine gate_guard (by rfl) ?_; dsimp only)); refine box_event (by rfl) (N := 1) (by rfl) (cs := #[.int .i64 a0_0, .int .i64 a0_1, .int .i64 a0_2, .int .i64 a0_3, .int .i64 a0_4]) (t := 71) gS ?_; intro gb211 hg w22 hbox hb; have BK211 := as_ (hbox); have GW211 := gw hg bA; have GE211 := gw hg bA; replace HB := as_ (below_step bA hb); clear hb hbox hg; obtain ⟨hcz23_0, hcz23_1, hcz23_2, hcz23_3, hcz23_4⟩ := zc5 BK211; obtain ⟨hfz23_0, hfz23_1, hfz23_2, hfz23_3, hfz23_4⟩ := zf5 BK211) | ((with_reducible refine gate_dst (N := 14) rfl ?_); (try (refine gate_guard (by rfl) ?_; dsimp only)); refine Kd.R_lit (Kd.int .i64) _ 3 ?hg (N := 14) ?hd (xs := ([a0_1] : List Int)) (inner := [.int .i64 a0_1]) (ok := fun _ => True) (okp := fun _ => True) ?hr ?hp (fun _ hk => hk) trivial (Below.refl _ _) (Nat.le_refl _) (by simp) ?_; (case hd => rfl); (case hg => rfl); (case hr => first | (go_simp; done) | (go_simp; rfl)); (case hp => exact (Reps.one (show Kd.M (Kd.int .i64) _ _ _ a0_1 [.int .i64 a0_1] from rfl) (Reps.none _ _))); intro v213 w24 ho25 hb hg_ hnew_; clear hg_ hnew_; (first | rw [← Ny212.out] at ho25 | (simp only [Int.reduceToNat] at ho25; rw [← Ny212.out] at ho25)); have HO214 := as_ (Kd.R_lower ho25 (below_size bA)); replace BK211 := bb BK211 hb; replace HB := as_ (below_step bA hb); clear hb ho25; obtain ⟨Ao26, co26, eo26⟩ := Kd.R_slice HO214.out; subst eo26) | (go_at_call 122; (with_reducible refine (head_within.calls k 256 _ _ y212 true _ ?side1 ?side2 A4.out).mono ?_); (case side1 => repeat (first | exact (Kd.R_reads' HO214.out).2.2 | (with_reducible refine Kd.C_alloc ?_ _) | (with_reducible refine Kd.C_drewN ?_ _) | (with_reducible refine Kd.C_drew ?_))); (case side2 => exact (Kd.R_reads' HO214.out).2.1); rintro e w' ⟨rfl, ⟨nd, rfl⟩⟩; obtain ⟨hcz27_0, hcz27_1, hcz27_2, hcz27_3, hcz27_4⟩ := zc5 BK211; obtain ⟨hfz27_0, hfz27_1, hfz27_2, hfz27_3, hfz27_4⟩ := zf5 BK211) | ((with_reducible refine gate_dst (N := 20) rfl ?_); (try (refine gate_guard (by rfl) ?_; dsimp only)); refine Kd.R_lit (Kd.int .i64) _ 3 ?hg (N := 20) ?hd (xs := ([a0_2] : List Int)) (inner := [.int .i64 a0_2]) (ok := fun _ => True) (okp := fun _ => True) ?hr ?hp (fun _ hk => hk) trivial (Below.refl _ _) (Nat.le_refl _) (by simp) ?_; (case hd => rfl); (case hg => rfl); (case hr => first | (go_simp; done) | (go_simp; rfl)); (case hp => exact (Reps.one (show Kd.M (Kd.int .i64) _ _ _ a0_2 [.int .i64 a0_2] from rfl) (Reps.none _ _))); intro v217 w28 ho29 hb hg_ hnew_; clear hg_ hnew_; (first | rw [← Ny216.out] at ho29 | (simp only [Int.reduceToNat] at ho29; rw [← Ny216.out] at ho29)); have HO218 := as_ (Kd.R_lower (Kd.R_new' ho29 (Kd.R_lt (rD HO214))) (below_size bA)); replace HO214 := as_ (Kd.R_elder' (rD HO214) (Kd.R_base ho29) hb); replace BK211 := bb BK211 hb; replace HB := as_ (below_step bA hb); clear hb ho29; obtain ⟨Ao30, co30, eo30⟩ := Kd.R_slice HO218.out; subst eo30) | (go_at_call 122; (with_reducible refine (head_within.calls k 65536 _ _ y216 false _ ?side1 ?side2 A6.out).mono ?_); (case side1 => repeat (first | exact (Kd.R_reads' HO218.out).2.2 | (with_reducible refine Kd.C_alloc ?_ _) | (with_reducible refine Kd.C_drewN ?_ _) | (with_reducible refine Kd.C_drew ?_))); (case side2 => exact (Kd.R_reads' HO218.out).2.1); rintro e w' ⟨rfl, ⟨nd, rfl⟩⟩))
  go_ret
  exact ⟨eW, bA⟩
 subst c7
 have H1 : ((head_within.f k 4096 (([a0_3, a0_4] : List Int))).bind fun t223 => (some t223)) = some r := by rw [if_pos rfl] at H; exact H
 clear H
 have H := H1
 clear H1
 obtain ⟨y220, hy220⟩ : ∃ y_ : List Int, y_ = (([a0_3, a0_4] : List Int)) := ⟨_, rfl⟩
 replace H : ((head_within.f k 4096 y220).bind fun t223 => (some t223)) = some r := by first | (rw [hy220]; with_reducible exact H) | (have H2_ := (Option.bind_some _ _).symm.trans H; rw [hy220]; with_reducible exact H2_) | (have H2_ := (Option.bind_some _ _).symm.trans H; with_reducible exact H2_) | with_reducible exact H | (rw [hy220]; exact H) | exact H
 have Ny220 := Aside0.mk hy220
 clear hy220
 obtain ⟨t223, A8, H⟩ := bN H
 (try dsimp only at H)
 obtain rfl := Option.some.inj H
 go_enter Tryz.func102, Tryz.ntmps102
 go_wp2_with (first | ((with_reducible refine gate_dst (N := 1) rfl ?_); (try (refine gate_guard (by rfl) ?_; dsimp only)); refine box_event (by rfl) (N := 1) (by rfl) (cs := #[.int .i64 a0_0, .int .i64 a0_1, .int .i64 a0_2, .int .i64 a0_3, .int .i64 a0_4]) (t := 71) gS ?_; intro gb211 hg w9 hbox hb; have BK211 := as_ (hbox); have GW211 := gw hg bA; have GE211 := gw hg bA; replace HB := as_ (below_step bA hb); clear hb hbox hg; obtain ⟨hcz10_0, hcz10_1, hcz10_2, hcz10_3, hcz10_4⟩ := zc5 BK211; obtain ⟨hfz10_0, hfz10_1, hfz10_2, hfz10_3, hfz10_4⟩ := zf5 BK211) | ((with_reducible refine gate_dst (N := 14) rfl ?_); (try (refine gate_guard (by rfl) ?_; dsimp only)); refine Kd.R_lit (Kd.int .i64) _ 3 ?hg (N := 14) ?hd (xs := ([a0_1] : List Int)) (inner := [.int .i64 a0_1]) (ok := fun _ => True) (okp := fun _ => True) ?hr ?hp (fun _ hk => hk) trivial (Below.refl _ _) (Nat.le_refl _) (by simp) ?_; (case hd => rfl); (case hg => rfl); (case hr => first | (go_simp; done) | (go_simp; rfl)); (case hp => exact (Reps.one (show Kd.M (Kd.int .i64) _ _ _ a0_1 [.int .i64 a0_1] from rfl) (Reps.none _ _))); intro v213 w11 ho12 hb hg_ hnew_; clear hg_ hnew_; (first | rw [← Ny212.out] at ho12 | (simp only [Int.reduceToNat] at ho12; rw [← Ny212.out] at ho12)); have HO214 := as_ (Kd.R_lower ho12 (below_size bA)); replace BK211 := bb BK211 hb; replace HB := as_ (below_step bA hb); clear hb ho12; obtain ⟨Ao13, co13, eo13⟩ := Kd.R_slice HO214.out; subst eo13) | (go_at_call 122; (with_reducible refine (head_within.calls k 256 _ _ y212 true _ ?side1 ?side2 A4.out).mono ?_); (case side1 => repeat (first | exact (Kd.R_reads' HO214.out).2.2 | (with_reducible refine Kd.C_alloc ?_ _) | (with_reducible refine Kd.C_drewN ?_ _) | (with_reducible refine Kd.C_drew ?_))); (case side2 => exact (Kd.R_reads' HO214.out).2.1); rintro e w' ⟨rfl, ⟨nd, rfl⟩⟩; obtain ⟨hcz14_0, hcz14_1, hcz14_2, hcz14_3, hcz14_4⟩ := zc5 BK211; obtain ⟨hfz14_0, hfz14_1, hfz14_2, hfz14_3, hfz14_4⟩ := zf5 BK211) | ((with_reducible refine gate_dst (N := 20) rfl ?_); (try (refine gate_guard (by rfl) ?_; dsimp only)); refine Kd.R_lit (Kd.int .i64) _ 3 ?hg (N := 20) ?hd (xs := ([a0_2] : List Int)) (inner := [.int .i64 a0_2]) (ok := fun _ => True) (okp := fun _ => True) ?hr ?hp (fun _ hk => hk) trivial (Below.refl _ _) (Nat.le_refl _) (by simp) ?_; (case hd => rfl); (case hg => rfl); (case hr => first | (go_simp; done) | (go_simp; rfl)); (case hp => exact (Reps.one (show Kd.M (Kd.int .i64) _ _ _ a0_2 [.int .i64 a0_2] from rfl) (Reps.none _ _))); intro v217 w15 ho16 hb hg_ hnew_; clear hg_ hnew_; (first | rw [← Ny216.out] at ho16 | (simp only [Int.reduceToNat] at ho16; rw [← Ny216.out] at ho16)); have HO218 := as_ (Kd.R_lower (Kd.R_new' ho16 (Kd.R_lt (rD HO214))) (below_size bA)); replace HO214 := as_ (Kd.R_elder' (rD HO214) (Kd.R_base ho16) hb); replace BK211 := bb BK211 hb; replace HB := as_ (below_step bA hb); clear hb ho16; obtain ⟨Ao17, co17, eo17⟩ := Kd.R_slice HO218.out; subst eo17) | (go_at_call 122; (with_reducible refine (head_within.calls k 65536 _ _ y216 true _ ?side1 ?side2 A6.out).mono ?_); (case side1 => repeat (first | exact (Kd.R_reads' HO218.out).2.2 | (with_reducible refine Kd.C_alloc ?_ _) | (with_reducible refine Kd.C_drewN ?_ _) | (with_reducible refine Kd.C_drew ?_))); (case side2 => exact (Kd.R_reads' HO218.out).2.1); rintro e w' ⟨rfl, ⟨nd, rfl⟩⟩; obtain ⟨hcz18_0, hcz18_1, hcz18_2, hcz18_3, hcz18_4⟩ := zc5 BK211; obtain ⟨hfz18_0, hfz18_1, hfz18_2, hfz18_3, hfz18_4⟩ := zf5 BK211) | ((with_reducible refine gate_dst (N := 28) rfl ?_); (try (refine gate_guard (by rfl) ?_; dsimp only)); refine Kd.R_lit (Kd.int .i64) _ 3 ?hg (N := 28) ?hd (xs := ([a0_3, a0_4] : List Int)) (inner := [.int .i64 a0_3, .int .i64 a0_4]) (ok := fun _ => True) (okp := fun _ => True) ?hr ?hp (fun _ hk => hk) trivial (Below.refl _ _) (Nat.le_refl _) (by simp) ?_; (case hd => rfl); (case hg => rfl); (case hr => first | (go_simp; done) | (go_simp; rfl)); (case hp => exact (Reps.one (show Kd.M (Kd.int .i64) _ _ _ a0_3 [.int .i64 a0_3] from rfl) (Reps.one (show Kd.M (Kd.int .i64) _ _ _ a0_4 [.int .i64 a0_4] from rfl) (Reps.none _ _)))); intro v221 w19 ho20 hb hg_ hnew_; clear hg_ hnew_; (first | rw [← Ny220.out] at ho20 | (simp only [Int.reduceToNat] at ho20; rw [← Ny220.out] at ho20)); have HO222 := as_ (Kd.R_lower (Kd.R_new' (Kd.R_new' ho20 (Kd.R_lt (rD HO214))) (Kd.R_lt (rD HO218))) (below_size bA)); replace HO214 := as_ (Kd.R_elder' (rD HO214) (Kd.R_base ho20) hb); replace HO218 := as_ (Kd.R_elder' (rD HO218) (Kd.R_base ho20) hb); replace BK211 := bb BK211 hb; replace HB := as_ (below_step bA hb); clear hb ho20; obtain ⟨Ao21, co21, eo21⟩ := Kd.R_slice HO222.out; subst eo21) | (go_at_call 122; (with_reducible refine (head_within.calls k 4096 _ _ y220 t223 _ ?side1 ?side2 A8.out).mono ?_); (case side1 => repeat (first | exact (Kd.R_reads' HO222.out).2.2 | (with_reducible refine Kd.C_alloc ?_ _) | (with_reducible refine Kd.C_drewN ?_ _) | (with_reducible refine Kd.C_drew ?_))); (case side2 => exact (Kd.R_reads' HO222.out).2.1); rintro e w' ⟨rfl, ⟨nd, rfl⟩⟩))
 go_ret
 exact ⟨eW, bA⟩
/-! ### head_may: function 67, by hand -/
theorem eq_code (c d : Int) (W : World) : (binOp .eql 108 (.iface 29 (.int .i64 c)) (.iface 29 (.int .i64 d))).run Tryz.prog W = .ok (.bool (c == d)) W := by
 have hi : Tryz.prog.underlying 108 = some (.interface (Tryz.prog.methodsAt 108)) := by kernel_rfl
 have hp : Tryz.prog.underlying 29 = some (.int .i64) := by kernel_rfl
 obtain ⟨i, hinfo, hcomp⟩ : ∃ i, Tryz.prog.info? 29 = some i ∧ i.comparable = true := by
  have h : (Tryz.prog.info? 29).map (·.comparable) = some true := by kernel_rfl
  cases h' : Tryz.prog.info? 29 with
  | none => rw [h'] at h; cases h
  | some i => rw [h'] at h; exact ⟨i, rfl, by injection h⟩
 have h : ∀ n : Nat, (Op.equalIn (n + 2) 108 (.iface 29 (.int .i64 c)) (.iface 29 (.int .i64 d))).run Tryz.prog W = .ok (c == d) W := fun n => by
  simp [Op.equalIn, run_underlying hi, run_underlying hp, typeInfo, hinfo, hcomp]
 simp only [binOp]
 simp [Op.equal, Op.maxDepth, h 9998]
theorem eq_other (t : TypeId) (v : Value) (d : Int) (W : World) (ht : t ≠ 29) : (binOp .eql 108 (.iface t v) (.iface 29 (.int .i64 d))).run Tryz.prog W = .ok (.bool false) W := by
 have hi : Tryz.prog.underlying 108 = some (.interface (Tryz.prog.methodsAt 108)) := by kernel_rfl
 have h : ∀ n : Nat, (Op.equalIn (n + 2) 108 (.iface t v) (.iface 29 (.int .i64 d))).run Tryz.prog W = .ok false W := fun n => by
  simp [Op.equalIn, run_underlying hi, ht]
 simp only [binOp]
 simp [Op.equal, Op.maxDepth, h 9998]
theorem least_cons (s : String) (r : List String) : (Instr.least (s :: r)).isSome = true := rfl
theorem missing_some (want : Array (String × TypeId)) (got : Array Method) (h : ((want.toList.filter fun (x : String × TypeId) => !got.any fun m => m.name == x.1 && m.sig == x.2).isEmpty) = false) : (Instr.missingMethod want got).isSome = true := by
 unfold Instr.missingMethod
 simp only
 generalize hL : (want.toList.filter fun (x : String × TypeId) => match x with | (name, sig) => !got.any fun m => m.name == name && m.sig == sig) = L
 have hL' : L.isEmpty = false := by rw [← hL]; exact h
 cases L with
 | nil => simp at hL'
 | cons a r =>
  simp only [List.map_cons, List.partition_eq_filter_filter]
  by_cases hd : a.1.contains '.' = true
  ·simp only [List.filter_cons, hd, if_true, List.map_cons]
   cases Instr.least _ <;> rfl
  simp only [Bool.not_eq_true] at hd
  simp only [List.filter_cons, Function.comp, hd, Bool.not_false, if_true]
  rfl
theorem assert_not (t T x : TypeId) (v : Value) (W : World) (h : (match Tryz.prog.underlying T, Tryz.prog.info? t with | some (.interface want), some i => !((want.toList.filter fun (x : String × TypeId) => !i.methods.any fun m => m.name == x.1 && m.sig == x.2).isEmpty) | _, _ => false) = true) (hz : (zeroValue T).run Tryz.prog W = .ok .nilIface W) : (Instr.typeAssert (.iface t v) x T true).run Tryz.prog W = .ok (.tuple #[.nilIface, .bool false]) W := by
 cases hu : Tryz.prog.underlying T with
 | none => rw [hu] at h; simp at h
 | some d =>
  cases hi : Tryz.prog.info? t with
  | none => rw [hu, hi] at h; cases d <;> simp at h
  | some i =>
   rw [hu, hi] at h
   cases d with
   | interface want =>
    have h' := missing_some want i.methods (by simpa only [Bool.not_eq_true'] using h)
    cases hm : Instr.missingMethod want i.methods with
    | none => rw [hm] at h'; cases h'
    | some m => simp [Instr.typeAssert, run_underlying hu, typeInfo, hi, hm, hz, Result.andThen]
   | _ => simp at h
theorem zero_iface (T : TypeId) (W : World) (h : (Tryz.prog.info? T).map (·.zero) = some (some .nilIface)) : (zeroValue T).run Tryz.prog W = .ok .nilIface W := by
 cases hi : Tryz.prog.info? T with
 | none => simp [hi] at h
 | some i =>
  have hz : i.zero = some .nilIface := by simpa [hi] using h
  simp [zeroValue, typeInfo, hi, hz, Result.andThen]
theorem assert_is (t : TypeId) (v : Value) (W : World) (h : (match Tryz.prog.underlying 171, Tryz.prog.info? t with | some (.interface want), some i => !((want.toList.filter fun (x : String × TypeId) => !i.methods.any fun m => m.name == x.1 && m.sig == x.2).isEmpty) | _, _ => false) = true) : (Instr.typeAssert (.iface t v) 108 171 true).run Tryz.prog W = .ok (.tuple #[.nilIface, .bool false]) W := assert_not _ _ _ _ W h (zero_iface _ W (by kernel_rfl))
theorem assert_un (t : TypeId) (v : Value) (W : World) (h : (match Tryz.prog.underlying 174, Tryz.prog.info? t with | some (.interface want), some i => !((want.toList.filter fun (x : String × TypeId) => !i.methods.any fun m => m.name == x.1 && m.sig == x.2).isEmpty) | _, _ => false) = true) : (Instr.typeAssert (.iface t v) 108 174 true).run Tryz.prog W = .ok (.tuple #[.nilIface, .bool false]) W := assert_not _ _ _ _ W h (zero_iface _ W (by kernel_rfl))
theorem assert_uns (t : TypeId) (v : Value) (W : World) (h : (match Tryz.prog.underlying 176, Tryz.prog.info? t with | some (.interface want), some i => !((want.toList.filter fun (x : String × TypeId) => !i.methods.any fun m => m.name == x.1 && m.sig == x.2).isEmpty) | _, _ => false) = true) : (Instr.typeAssert (.iface t v) 108 176 true).run Tryz.prog W = .ok (.tuple #[.nilIface, .bool false]) W := assert_not _ _ _ _ W h (zero_iface _ W (by kernel_rfl))
set_option maxRecDepth 100000 in
set_option maxHeartbeats 4000000 in
theorem is_leaf (t : TypeId) (u : Value) (d : Int) (b : Bool) (w : World) (heq : ∀ W : World, (binOp .eql 108 (.iface t u) (.iface 29 (.int .i64 d))).run Tryz.prog W = .ok (.bool b) W)
  (h1 : ∀ W : World, (Instr.typeAssert (.iface t u) 108 171 true).run Tryz.prog W = .ok (.tuple #[.nilIface, .bool false]) W)
  (h2 : ∀ W : World, (Instr.typeAssert (.iface t u) 108 174 true).run Tryz.prog W = .ok (.tuple #[.nilIface, .bool false]) W)
  (h3 : ∀ W : World, (Instr.typeAssert (.iface t u) 108 176 true).run Tryz.prog W = .ok (.tuple #[.nilIface, .bool false]) W) :
  Calls Tryz.prog 119 #[.iface t u, .iface 29 (.int .i64 d), .bool true] w fun e w' => e = .returned (.bool b) ∧ Drawn0 w w' := by
 cases b
 all_goals
  go_enter Tryz.func119, Tryz.ntmps119
  go_wp2
  go_loopg [0] 1 (fun kq v0 w' => v0 = .iface t u ∧ w' = w)
  case atStart => exact ⟨rfl, rfl⟩
  case round =>
   obtain ⟨rfl, rfl⟩ := hrel
   go_wp2
   go_ret
   exact ⟨rfl, by repeat (first | exact Drawn0.refl _ | apply Drawn0.step)⟩
theorem is_code (c d : Int) (w : World) : Calls Tryz.prog 119 #[.iface 29 (.int .i64 c), .iface 29 (.int .i64 d), .bool true] w fun e w' => e = .returned (.bool (c == d)) ∧ Drawn0 w w' :=
 is_leaf _ _ d _ w (eq_code c d) (fun W => assert_is _ _ W (by kernel_rfl)) (fun W => assert_un _ _ W (by kernel_rfl)) (fun W => assert_uns _ _ W (by kernel_rfl))
theorem is_text (u : Value) (d : Int) (w : World) : Calls Tryz.prog 119 #[.iface 182 u, .iface 29 (.int .i64 d), .bool true] w fun e w' => e = .returned (.bool false) ∧ Drawn0 w w' :=
 is_leaf _ _ d _ w (fun W => eq_other _ _ d W (by decide)) (fun W => assert_is _ _ W (by kernel_rfl)) (fun W => assert_un _ _ W (by kernel_rfl)) (fun W => assert_uns _ _ W (by kernel_rfl))
theorem typeOf_code (u : Value) (W : World) : (callFunc 118 #[.iface 29 u]).run Tryz.prog W = .ok (.value (.iface 169 (.agg #[typeHandle Tryz.prog 29]))) W := by
 have hc : (Tryz.prog.cutTypes.find? (·.1 == "internal/reflectlite.rtype")).map (·.2) = some 169 := by kernel_rfl
 have he : Extern.find Tryz.f118 = some Extern.ReflectliteType.typeOf := by kernel_rfl
 have hn : Extern.findNext Tryz.f118 = none := Option.isNone_iff_eq_none.1 (by kernel_rfl)
 rw [run_callFunc_extern Tryz.func118 (by kernel_rfl) rfl hn he]
 have hct : (cutType "internal/reflectlite.rtype").run Tryz.prog W = .ok 169 W := by
  unfold cutType
  cases hf : Tryz.prog.cutTypes.find? (·.1 == "internal/reflectlite.rtype") with
  | none => rw [hf] at hc; cases hc
  | some x =>
   rw [hf] at hc
   injection hc with hc
   simp [hf, hc, Result.andThen]
 have ht : Extern.ReflectliteType.typeOf #[.iface 29 u] = Extern.ReflectliteType.toType 29 := rfl
 rw [ht]
 simp [Extern.ReflectliteType.toType, hct, Extern.Rtype.handle, Result.andThen]
theorem method_val (n : Nat) (t : TypeId) (v : Value) (name : String) (f : FuncId) (q : Bool) (W : World) (h : ((Tryz.prog.info? t).bind fun i => i.methods.find? (·.name == name)).map (fun m => (m.path.toList.isEmpty, m.func)) = some (true, some (f, q))) (hr : ∀ y : Option String, (receiverAt t (.val v) q y).run Tryz.prog W = .ok v W) : (method (n + 1) t v name).run Tryz.prog W = .ok (f, v) W := by
 cases hi : Tryz.prog.info? t with
 | none => rw [hi] at h; cases h
 | some i =>
  rw [hi] at h
  cases hm : i.methods.find? (·.name == name) with
  | none => simp only [Option.bind_some, hm] at h; cases h
  | some m =>
   simp only [Option.bind_some, hm, Option.map_some, Option.some.injEq, Prod.mk.injEq, List.isEmpty_iff] at h
   obtain ⟨h1, h2⟩ := h
   simp [method, typeInfo, hi, hm, h1, h2, follow, hr, Result.andThen]
theorem receiver_struct (t : TypeId) (v : Value) (W : World) (y : Option String) (h : (match Tryz.prog.underlying t with | some (.struct _) => true | _ => false) = true) : (receiverAt t (.val v) false y).run Tryz.prog W = .ok v W := by
 cases hu : Tryz.prog.underlying t with
 | none => rw [hu] at h; cases h
 | some d =>
  rw [hu] at h
  cases d <;> simp at h
  simp [receiverAt, run_underlying hu, Place.get, Result.andThen]
theorem receiver_ptr (t : TypeId) (v : Value) (W : World) (y : Option String) (h : (match Tryz.prog.underlying t with | some (.pointer _) => true | _ => false) = true) : (receiverAt t (.val v) true y).run Tryz.prog W = .ok v W := by
 cases hu : Tryz.prog.underlying t with
 | none => rw [hu] at h; cases h
 | some d =>
  rw [hu] at h
  cases d <;> simp at h
  simp [receiverAt, run_underlying hu, Place.get, Result.andThen]
theorem comparable_code (n : Nat) (v : Value) (W : World) : (method (n + 1) 169 v "Comparable").run Tryz.prog W = .ok (150, v) W :=
 method_val n _ v _ _ false W (by kernel_rfl) (fun y => receiver_struct _ v W y (by kernel_rfl))
theorem handle_back (P : Program) (t : TypeId) : handleType P (typeHandle P t) = some t := by simp [handleType, typeHandle]
theorem run_program_ (P : Program) (W : World) : Sem.run P program W = .ok P W := rfl
theorem comparable_any (P : Program) (t : TypeId) (i : TypeInfo) (H : Value) (W : World) (hb : handleType P H = some t) (hp : P.packed t = false) (hh : P.holdsPacked P.depth t = false) (hi : P.info? t = some i) (hc : i.comparable = true) :
  ((Extern.ReflectliteType.method fun t => do Extern.Rtype.noPackHeld "Comparable" t; pure (.bool (← typeInfo t).comparable)) #[.agg #[H]]).run P W = .ok (.bool true) W := by
 have ht : ∀ (G : TypeId → Sem Value) (r : Value), Extern.ReflectliteType.method G #[r] = (do G (← Extern.ReflectliteType.ofRtype r)) := fun _ _ => rfl
 have ho : ∀ (r : Value), Extern.ReflectliteType.ofRtype (.agg #[r]) = (do let t ← Extern.Rtype.ofHandle r; Extern.Rtype.noPack "a Type asked or handed on" t; pure t) := fun _ => rfl
 have h1 : (Extern.Rtype.ofHandle H).run P W = .ok t W := by
  unfold Extern.Rtype.ofHandle
  simp only [Sem.run_bind, run_program_, Result.andThen, hb, Sem.run_pure]
 have h2 : ∀ s, (Extern.Rtype.noPack s t).run P W = .ok () W := by
  intro s
  unfold Extern.Rtype.noPack
  simp only [Sem.run_bind, run_program_, Result.andThen, hp, Bool.false_eq_true, if_false, Sem.run_pure]
 have h3 : ∀ s, (Extern.Rtype.noPackHeld s t).run P W = .ok () W := by
  intro s
  unfold Extern.Rtype.noPackHeld
  simp only [Sem.run_bind, run_program_, Result.andThen, hh, Bool.false_eq_true, if_false, Sem.run_pure]
 have h4 : (typeInfo t).run P W = .ok i W := by simp [typeInfo, hi]
 rw [ht, ho]
 simp only [Sem.run_bind, h1, h2, h3, h4, Result.andThen, Sem.run_pure, hc]
theorem comparable_run (W : World) : (callFunc 150 #[.agg #[typeHandle Tryz.prog 29]]).run Tryz.prog W = .ok (.value (.bool true)) W := by
 have he : Extern.find Tryz.f150 = some (Extern.ReflectliteType.method fun t => do Extern.Rtype.noPackHeld "Comparable" t; pure (.bool (← typeInfo t).comparable)) := by kernel_rfl
 have hn : Extern.findNext Tryz.f150 = none := Option.isNone_iff_eq_none.1 (by kernel_rfl)
 rw [run_callFunc_extern Tryz.func150 (by kernel_rfl) rfl hn he]
 have h : (Tryz.prog.info? 29).map (·.comparable) = some true := by kernel_rfl
 cases hi : Tryz.prog.info? 29 with
 | none => rw [hi] at h; cases h
 | some i =>
  rw [hi] at h
  rw [comparable_any Tryz.prog 29 i _ W (handle_back _ _) (by kernel_rfl) (by kernel_rfl) hi (by injection h)]
  rfl
set_option maxRecDepth 100000 in
set_option maxHeartbeats 4000000 in
theorem Is_leaf (t : TypeId) (u : Value) (d : Int) (b : Bool) (w : World) (hn : ∀ W : World, (binOp .eql 108 (.iface t u) .nilIface).run Tryz.prog W = .ok (.bool false) W) (hn2 : ∀ W : World, (binOp .eql 108 (.iface 29 (.int .i64 d)) .nilIface).run Tryz.prog W = .ok (.bool false) W)
  (hIs : ∀ W : World, Below w.heap.size w W → Calls Tryz.prog 119 #[.iface t u, .iface 29 (.int .i64 d), .bool true] W fun e w' => e = .returned (.bool b) ∧ Drawn0 W w') :
  Calls Tryz.prog 100 #[.iface t u, .iface 29 (.int .i64 d)] w fun e w' => e = .returned (.bool b) ∧ Below w.heap.size w w' := by
 have HB := as_ (Below.refl w.heap.size w)
 have hT := typeOf_code (.int .i64 d)
 have hM := comparable_code
 have hR := comparable_run
 go_enter Tryz.func100, Tryz.ntmps100
 go_wp2_with fail
 refine (hIs _ (by repeat (first | exact HB.out | apply below_alloc | apply pw_below_drewN | apply below_drew1))).mono ?_
 rintro e w' ⟨rfl, ⟨nd, rfl⟩⟩
 go_wp2
 go_ret
 exact ⟨rfl, by repeat (first | exact HB.out | apply below_alloc | apply pw_below_drewN | apply below_drew1)⟩
set_option maxRecDepth 100000 in
set_option maxHeartbeats 4000000 in
theorem join_Unwrap (gj : Nat) (v : Value) (w : World) (hj : w.cell? ⟨gj, 0, none⟩ = some v) : Calls Tryz.prog 160 #[.pointer (some ⟨gj, 0, none⟩)] w fun e w' => e = .returned v ∧ Drawn0 w w' := by
 go_enter Tryz.func160, Tryz.ntmps160
 go_wp2
 go_ret
 exact ⟨rfl, by repeat (first | exact Drawn0.refl _ | apply Drawn0.step)⟩
theorem assert_has (t : TypeId) (v : Value) (T x : TypeId) (W : World) (want : Array (String × TypeId)) (i : TypeInfo) (hu : Tryz.prog.underlying T = some (.interface want)) (hi : Tryz.prog.info? t = some i) (hm : Instr.missingMethod want i.methods = none) : (Instr.typeAssert (.iface t v) x T true).run Tryz.prog W = .ok (.tuple #[.iface t v, .bool true]) W := by
 simp [Instr.typeAssert, run_underlying hu, typeInfo, hi, hm, Result.andThen]
theorem missing_none (want : Array (String × TypeId)) (got : Array Method) (h : ((want.toList.filter fun (x : String × TypeId) => !got.any fun m => m.name == x.1 && m.sig == x.2).isEmpty) = true) : Instr.missingMethod want got = none := by
 unfold Instr.missingMethod
 simp only
 generalize hL : (want.toList.filter fun (x : String × TypeId) => match x with | (name, sig) => !got.any fun m => m.name == name && m.sig == sig) = L
 have hL' : L.isEmpty = true := by rw [← hL]; exact h
 cases L with
 | nil => rfl
 | cons a r => cases hL'
theorem unwrap_row (n : Nat) (v : Value) (W : World) : (method (n + 1) 179 v "Unwrap").run Tryz.prog W = .ok (160, v) W :=
 method_val n _ v _ _ true W (by kernel_rfl) (fun y => receiver_ptr _ v W y (by kernel_rfl))
theorem assert_join (v : Value) (W : World) : (Instr.typeAssert (.iface 179 v) 108 176 true).run Tryz.prog W = .ok (.tuple #[.iface 179 v, .bool true]) W := by
 have h : (match Tryz.prog.underlying 176, Tryz.prog.info? 179 with | some (.interface want), some i => ((want.toList.filter fun (x : String × TypeId) => !i.methods.any fun m => m.name == x.1 && m.sig == x.2).isEmpty) | _, _ => false) = true := by kernel_rfl
 cases hu : Tryz.prog.underlying 176 with
 | none => rw [hu] at h; simp at h
 | some d =>
  cases hi : Tryz.prog.info? 179 with
  | none => rw [hu, hi] at h; cases d <;> simp at h
  | some i =>
   rw [hu, hi] at h
   cases d with
   | interface want => exact assert_has _ _ _ _ W want i hu hi (missing_none want i.methods h)
   | _ => simp at h
set_option maxRecDepth 100000 in
set_option maxHeartbeats 4000000 in
theorem is_join (gj ga : Nat) (cap : Nat) (u : Value) (c d : Int) (w : World) (hj : w.cell? ⟨gj, 0, none⟩ = some (.slice (some ⟨ga, 0, none⟩) 2 cap)) (h0 : w.cell? ⟨ga, 0, none⟩ = some (.iface 182 u)) (h1 : w.cell? ⟨ga, 1, none⟩ = some (.iface 29 (.int .i64 c))) :
  Calls Tryz.prog 119 #[.iface 179 (.pointer (some ⟨gj, 0, none⟩)), .iface 29 (.int .i64 d), .bool true] w fun e w' => e = .returned (.bool (c == d)) ∧ Drawn0 w w' := by
 have heq : ∀ W : World, _ := fun W => eq_other 179 (.pointer (some ⟨gj, 0, none⟩)) d W (by decide)
 have ha1 : ∀ W : World, _ := fun W => assert_is 179 (.pointer (some ⟨gj, 0, none⟩)) W (by kernel_rfl)
 have ha2 : ∀ W : World, _ := fun W => assert_un 179 (.pointer (some ⟨gj, 0, none⟩)) W (by kernel_rfl)
 have ha3 := assert_join (.pointer (some ⟨gj, 0, none⟩))
 have hM := unwrap_row
 go_enter Tryz.func119, Tryz.ntmps119
 go_wp2
 go_loopg [0] 1 (fun kq v0 w' => v0 = .iface 179 (.pointer (some ⟨gj, 0, none⟩)) ∧ w' = w)
 case atStart => exact ⟨rfl, rfl⟩
 case round =>
  obtain ⟨rfl, rfl⟩ := hrel
  go_wp2_with fail
  refine (join_Unwrap gj _ _ hj).mono ?_
  rintro e w' ⟨rfl, ⟨nd, rfl⟩⟩
  go_wp2
  go_loopg [45] 3 (fun kq v45 w' => ∃ x45 : Int, v45 = .int .i64 x45 ∧ Aside0 ((x45 = 0 ∧ kq = 3) ∨ (x45 = 1 ∧ kq = 2) ∨ (x45 = 2 ∧ kq = 1 ∧ (c == d) = false)) ∧ Drawn0 wr w')
  case atStart => exact ⟨0, rfl, ⟨.inl ⟨rfl, rfl⟩⟩, ⟨_, rfl⟩⟩
  case round =>
   obtain ⟨x45, rfl, ⟨hc⟩, ⟨nd2, rfl⟩⟩ := hrel
   rcases hc with ⟨rfl, rfl⟩ | ⟨rfl, rfl⟩ | ⟨rfl, rfl, hcd⟩
   ·go_wp2_with fail
    refine (is_text u d _).mono ?_
    rintro e w' ⟨rfl, ⟨nd3, rfl⟩⟩
    go_wp2
    go_roundg 2
    exact ⟨1, rfl, ⟨.inr (.inl ⟨rfl, rfl⟩)⟩, by repeat (first | exact Drawn0.refl _ | apply Drawn0.step)⟩
    omega
   ·go_wp2_with fail
    refine (is_code c d _).mono ?_
    rintro e w' ⟨rfl, ⟨nd3, rfl⟩⟩
    cases hcd : (c == d)
    ·go_wp2
     go_roundg 1
     exact ⟨2, rfl, ⟨.inr (.inr ⟨rfl, rfl, hcd⟩)⟩, by repeat (first | exact Drawn0.refl _ | apply Drawn0.step)⟩
     omega
    ·go_wp2
     go_ret
     exact ⟨by rw [hcd]; rfl, by repeat (first | exact Drawn0.refl _ | apply Drawn0.step)⟩
   ·go_wp2
    go_ret
    exact ⟨by rw [hcd]; rfl, by repeat (first | exact Drawn0.refl _ | apply Drawn0.step)⟩
theorem eq_nil (t : TypeId) (v : Value) (W : World) : (binOp .eql 108 (.iface t v) .nilIface).run Tryz.prog W = .ok (.bool false) W := by
 have hi : Tryz.prog.underlying 108 = some (.interface (Tryz.prog.methodsAt 108)) := by kernel_rfl
 have h : ∀ n : Nat, (Op.equalIn (n + 2) 108 (.iface t v) .nilIface).run Tryz.prog W = .ok false W := fun n => by
  simp [Op.equalIn, run_underlying hi]
 simp only [binOp]
 simp [Op.equal, Op.maxDepth, h 9998]
theorem eq_nils (W : World) : (binOp .eql 108 .nilIface .nilIface).run Tryz.prog W = .ok (.bool true) W := by
 have hi : Tryz.prog.underlying 108 = some (.interface (Tryz.prog.methodsAt 108)) := by kernel_rfl
 have h : ∀ n : Nat, (Op.equalIn (n + 2) 108 .nilIface .nilIface).run Tryz.prog W = .ok true W := fun n => by
  simp [Op.equalIn, run_underlying hi]
 simp only [binOp]
 simp [Op.equal, Op.maxDepth, h 9998]
theorem eq_nil' (t : TypeId) (v : Value) (W : World) : (binOp .eql 108 .nilIface (.iface t v)).run Tryz.prog W = .ok (.bool false) W := by
 have hi : Tryz.prog.underlying 108 = some (.interface (Tryz.prog.methodsAt 108)) := by kernel_rfl
 have h : ∀ n : Nat, (Op.equalIn (n + 2) 108 .nilIface (.iface t v)).run Tryz.prog W = .ok false W := fun n => by
  simp [Op.equalIn, run_underlying hi]
 simp only [binOp]
 simp [Op.equal, Op.maxDepth, h 9998]
set_option maxRecDepth 100000 in
set_option maxHeartbeats 4000000 in
theorem New_calls (s : ByteArray) (w : World) : Calls Tryz.prog 121 #[.string s] w fun e w' => ∃ u, e = .returned (.iface 182 u) ∧ Below w.heap.size w w' := by
 have HB := as_ (Below.refl w.heap.size w)
 go_enter Tryz.func121, Tryz.ntmps121
 go_wp2
 go_ret
 exact ⟨_, rfl, by repeat (first | exact HB.out | apply below_alloc | apply pw_below_drewN | apply below_drew1)⟩
theorem cell_lt {w : World} {a : Addr} {v : Value} (h : w.cell? a = some v) : a.block < w.heap.size := by
 rcases Nat.lt_or_ge a.block w.heap.size with h' | h'
 ·exact h'
 ·simp [World.cell?, Array.getElem?_eq_none h'] at h
theorem make_errs (W : World) : (Instr.makeSlice 177 (.int .i64 0) (.int .i64 2)).run Tryz.prog W = .ok (.slice (some ⟨W.heap.size, 0, none⟩) 0 2) (W.alloc (.cells #[.nilIface, .nilIface] 108)) := by
 have hu : Tryz.prog.underlying 177 = some (.slice 108) := by kernel_rfl
 have h : (Tryz.prog.info? 108).map (fun i => (i.zero, i.size, i.bytes)) = some (some .nilIface, 1, 16) := by kernel_rfl
 cases hi : Tryz.prog.info? 108 with
 | none => rw [hi] at h; cases h
 | some i =>
  rw [hi] at h
  simp only [Option.map_some, Option.some.injEq, Prod.mk.injEq] at h
  have hr := run_makeSlice (P := Tryz.prog) (w := W) 177 108 i .nilIface hu hi h.1 .i64 .i64 0 2 (by decide) (by decide) (by rw [h.2.1]; decide) (by rw [h.2.2]; decide) (by decide)
  have hm : madeCells Value.nilIface.cells (Int.toNat 2 * 1) = #[.nilIface, .nilIface] := by kernel_rfl
  rw [hr, h.2.1, hm]
  rfl
set_option maxRecDepth 100000 in
set_option maxHeartbeats 4000000 in
theorem Join_calls (ga : Nat) (u : Value) (c : Int) (w : World) (h0 : w.cell? ⟨ga, 0, none⟩ = some (.iface 182 u)) (h1 : w.cell? ⟨ga, 1, none⟩ = some (.iface 29 (.int .i64 c))) :
  Calls Tryz.prog 120 #[.slice (some ⟨ga, 0, none⟩) 2 2] w fun e w' => ∃ gj gb cap u2, e = .returned (.iface 179 (.pointer (some ⟨gj, 0, none⟩))) ∧ w'.cell? ⟨gj, 0, none⟩ = some (.slice (some ⟨gb, 0, none⟩) 2 cap) ∧ w'.cell? ⟨gb, 0, none⟩ = some (.iface 182 u2) ∧ w'.cell? ⟨gb, 1, none⟩ = some (.iface 29 (.int .i64 c)) ∧ gj < w'.heap.size ∧ gb < w'.heap.size ∧ Below w.heap.size w w' := by
 have HB := as_ (Below.refl w.heap.size w)
 have hn := eq_nil
 have hmk := make_errs
 go_enter Tryz.func120, Tryz.ntmps120
 go_wp2
 go_loopg [3, 11] 3 (fun kq v3 v11 w' => ∃ x11 : Int, v3 = .int .i64 x11 ∧ v11 = .int .i64 x11 ∧ Aside0 ((x11 = 0 ∧ kq = 3) ∨ (x11 = 1 ∧ kq = 2) ∨ (x11 = 2 ∧ kq = 1)) ∧ Drawn0 w w')
 case atStart => exact ⟨0, rfl, rfl, ⟨.inl ⟨rfl, rfl⟩⟩, ⟨0, rfl⟩⟩
 case round =>
  obtain ⟨x11, rfl, rfl, ⟨hc⟩, ⟨nd2, rfl⟩⟩ := hrel
  rcases hc with ⟨rfl, rfl⟩ | ⟨rfl, rfl⟩ | ⟨rfl, rfl⟩
  ·go_wp2
   go_roundg 2
   exact ⟨1, rfl, rfl, ⟨.inr (.inl ⟨rfl, rfl⟩)⟩, by repeat (first | exact Drawn0.refl _ | apply Drawn0.step)⟩
   omega
  ·go_wp2
   go_roundg 1
   exact ⟨2, rfl, rfl, ⟨.inr (.inr ⟨rfl, rfl⟩)⟩, by repeat (first | exact Drawn0.refl _ | apply Drawn0.step)⟩
   omega
  ·go_wp2
   go_loopg [28] 3 (fun kq v28 w' => ∃ x28 : Int, v28 = .int .i64 x28 ∧ Aside0 (Below w.heap.size w w' ∧ w.heap.size + 1 < w'.heap.size ∧ w'.frozen? ⟨w.heap.size, 0, none⟩ = false ∧ w'.frozen? ⟨w.heap.size, 1, none⟩ = false ∧ w'.frozen? ⟨w.heap.size + 1, 0, none⟩ = false) ∧ w'.cell? ⟨ga, 0, none⟩ = some (.iface 182 u) ∧ w'.cell? ⟨ga, 1, none⟩ = some (.iface 29 (.int .i64 c)) ∧
    ((x28 = 0 ∧ kq = 3 ∧ w'.cell? ⟨w.heap.size + 1, 0, none⟩ = some (.slice (some ⟨w.heap.size, 0, none⟩) 0 2) ∧ w'.cell? ⟨w.heap.size, 0, none⟩ = some .nilIface ∧ w'.cell? ⟨w.heap.size, 1, none⟩ = some .nilIface) ∨
     (x28 = 1 ∧ kq = 2 ∧ w'.cell? ⟨w.heap.size + 1, 0, none⟩ = some (.slice (some ⟨w.heap.size, 0, none⟩) 1 2) ∧ w'.cell? ⟨w.heap.size, 0, none⟩ = some (.iface 182 u) ∧ w'.cell? ⟨w.heap.size, 1, none⟩ = some .nilIface) ∨
     (x28 = 2 ∧ kq = 1 ∧ w'.cell? ⟨w.heap.size + 1, 0, none⟩ = some (.slice (some ⟨w.heap.size, 0, none⟩) 2 2) ∧ w'.cell? ⟨w.heap.size, 0, none⟩ = some (.iface 182 u) ∧ w'.cell? ⟨w.heap.size, 1, none⟩ = some (.iface 29 (.int .i64 c)))))
   case atStart =>
    have hb2 : ga < w.heap.size := cell_lt h0
    have hb3 : ga ≠ w.heap.size := Nat.ne_of_lt hb2
    have hb4 : ga ≠ w.heap.size + 1 := by omega
    have hb5 : ga < w.heap.size + 1 := by omega
    refine ⟨0, rfl, ⟨⟨?_, ?_, ?_, ?_, ?_⟩⟩, ?_, ?_, .inl ⟨rfl, rfl, ?_, ?_, ?_⟩⟩
    ·exact Below.alloc (Below.alloc (pw_below_drewN HB.out _) (Nat.le_refl _) _) (by simp) _
    ·simp
    ·simp [go_sem]; exact World.frozen?_alloc_new (w := w.drewN nd2) _ _ _
    ·simp [go_sem]; exact World.frozen?_alloc_new (w := w.drewN nd2) _ _ _
    ·simp [go_sem]
    ·simp [go_sem, *]; exact (World.cell?_alloc_lt (w.drewN nd2) _ _ hb2).trans h0
    ·simp [go_sem, *]; exact (World.cell?_alloc_lt (w.drewN nd2) _ _ hb2).trans h1
    ·simp [go_sem]
    ·simp [go_sem]; exact World.cell?_alloc_new (w := w.drewN nd2) _ _ 0
    ·simp [go_sem]; exact World.cell?_alloc_new (w := w.drewN nd2) _ _ 1
   case round =>
    obtain ⟨x28, rfl, ⟨HB2, hsz, f0, f1, f2⟩, g0, g1, hc⟩ := hrel
    have hb0 : w.heap.size < wr.heap.size := by omega
    have hb2 : ga < wr.heap.size := cell_lt g0
    have hb3 : ga ≠ w.heap.size := Nat.ne_of_lt (cell_lt h0)
    have hb4 : ga ≠ w.heap.size + 1 := by have := cell_lt h0; simp only at this; omega
    have HB3 := Aside0.mk HB2
    clear HB2
    rcases hc with ⟨rfl, rfl, hx, hr0, hr1⟩ | ⟨rfl, rfl, hx, hr0, hr1⟩ | ⟨rfl, rfl, hx, hr0, hr1⟩
    ·go_wp2
     go_roundg 2
     ·refine ⟨1, rfl, ⟨⟨?_, ?_, ?_, ?_, ?_⟩⟩, ?_, ?_, .inr (.inl ⟨rfl, rfl, ?_, ?_, ?_⟩)⟩
      ·exact Below.alloc (Below.setCell (Below.setCell HB3.out (p := ⟨w.heap.size, 0, none⟩) (Nat.le_refl _) _) (p := ⟨w.heap.size + 1, 0, none⟩) (Nat.le_succ _) _) (by simp only [World.size_setCell]; omega) _
      ·simp only [World.size_alloc, World.size_setCell]
       omega
      all_goals
       simp [go_sem, *]
     ·omega
    ·go_wp2
     go_roundg 1
     ·refine ⟨2, rfl, ⟨⟨?_, ?_, ?_, ?_, ?_⟩⟩, ?_, ?_, .inr (.inr ⟨rfl, rfl, ?_, ?_, ?_⟩)⟩
      ·exact Below.alloc (Below.setCell (Below.setCell HB3.out (p := ⟨w.heap.size, 1, none⟩) (Nat.le_refl _) _) (p := ⟨w.heap.size + 1, 0, none⟩) (Nat.le_succ _) _) (by simp only [World.size_setCell]; omega) _
      ·simp only [World.size_alloc, World.size_setCell]
       omega
      all_goals
       simp [go_sem, *]
     ·omega
    ·go_wp2
     go_ret
     exact ⟨w.heap.size + 1, w.heap.size, 2, u, rfl, hx, hr0, hr1, by omega, by omega, HB3.out⟩
set_option maxRecDepth 100000 in
set_option maxHeartbeats 4000000 in
theorem fault_calls (s : ByteArray) (c : Int) (w : World) : Calls Tryz.prog 101 #[.int .i64 c, .string s] w fun e w' => ∃ gj gb cap u2, e = .returned (.iface 179 (.pointer (some ⟨gj, 0, none⟩))) ∧ w'.cell? ⟨gj, 0, none⟩ = some (.slice (some ⟨gb, 0, none⟩) 2 cap) ∧ w'.cell? ⟨gb, 0, none⟩ = some (.iface 182 u2) ∧ w'.cell? ⟨gb, 1, none⟩ = some (.iface 29 (.int .i64 c)) ∧ gj < w'.heap.size ∧ gb < w'.heap.size ∧ Below w.heap.size w w' := by
 have HB := as_ (Below.refl w.heap.size w)
 go_enter Tryz.func101, Tryz.ntmps101
 go_wp2_with fail
 refine (New_calls s _).mono ?_
 rintro e w1 ⟨u, rfl, hb1⟩
 have HB1 := as_ (HB.out.trans hb1)
 clear hb1
 go_wp2_with fail
 refine (Join_calls _ u c _ ?_ ?_).mono ?_
 ·simp [go_sem]
 ·simp [go_sem]
 rintro e w2 ⟨gj, gb, cap, u2, rfl, j1, j2, j3, j4, j5, hb2⟩
 have HB2 := as_ ((Below.alloc HB1.out HB1.out.size _).trans (hb2.mono (by simp; exact Nat.le_succ_of_le HB1.out.size)))
 clear hb2
 go_wp2
 go_ret
 exact ⟨gj, gb, cap, u2, rfl, j1, j2, j3, j4, j5, HB2.out⟩
def Errs (v : Value) (c : Int) (w : World) : Prop := (c = 0 ∧ v = .nilIface) ∨ (c ≠ 0 ∧ ∃ gj gb cap u2, v = .iface 179 (.pointer (some ⟨gj, 0, none⟩)) ∧ w.cell? ⟨gj, 0, none⟩ = some (.slice (some ⟨gb, 0, none⟩) 2 cap) ∧ w.cell? ⟨gb, 0, none⟩ = some (.iface 182 u2) ∧ w.cell? ⟨gb, 1, none⟩ = some (.iface 29 (.int .i64 c)))
theorem Errs.below {v : Value} {c : Int} {w W : World} {n : Nat} (h : Errs v c w) (hn : w.heap.size ≤ n) (hb : Below n w W) : Errs v c W := by
 rcases h with h | ⟨hc, gj, gb, cap, u2, rfl, h1, h2, h3⟩
 ·exact .inl h
 ·have l1 := cell_lt h1
  have l2 := cell_lt h2
  have l3 := cell_lt h3
  exact .inr ⟨hc, gj, gb, cap, u2, rfl, (hb.cell (Nat.lt_of_lt_of_le l1 hn)).trans h1, (hb.cell (Nat.lt_of_lt_of_le l2 hn)).trans h2, (hb.cell (Nat.lt_of_lt_of_le l3 hn)).trans h3⟩
set_option maxRecDepth 100000 in
set_option maxHeartbeats 4000000 in
theorem Is_nil (d : Int) (w : World) : Calls Tryz.prog 100 #[.nilIface, .iface 29 (.int .i64 d)] w fun e w' => e = .returned (.bool false) ∧ Below w.heap.size w w' := by
 have HB := as_ (Below.refl w.heap.size w)
 have h1 := eq_nil' 29 (.int .i64 d)
 have h2 := eq_nils
 go_enter Tryz.func100, Tryz.ntmps100
 go_wp2
 go_ret
 exact ⟨rfl, by repeat (first | exact HB.out | apply below_alloc | apply pw_below_drewN | apply below_drew1)⟩
theorem Is_any (v : Value) (c d : Int) (hd : d ≠ 0) (w : World) (h : Errs v c w) : Calls Tryz.prog 100 #[v, .iface 29 (.int .i64 d)] w fun e w' => e = .returned (.bool (c == d)) ∧ Below w.heap.size w w' := by
 rcases h with ⟨rfl, rfl⟩ | ⟨hc, gj, gb, cap, u2, rfl, h1, h2, h3⟩
 ·have hf : ((0 : Int) == d) = false := by simpa using fun h => hd h.symm
  rw [hf]
  exact Is_nil d w
 ·refine Is_leaf _ _ d _ w (eq_nil _ _) (eq_nil _ _) (fun W hb => ?_)
  exact is_join gj gb cap u2 c d W ((hb.cell (cell_lt h1)).trans h1) ((hb.cell (cell_lt h2)).trans h2) ((hb.cell (cell_lt h3)).trans h3)
set_option maxRecDepth 100000 in
set_option maxHeartbeats 4000000 in
theorem number_calls (v : Value) (c : Int) (hc : c = 0 ∨ c = 4 ∨ c = 3 ∨ c = 8) (w : World) (h : Errs v c w) : Calls Tryz.prog 66 #[v] w fun e w' => e = .returned (.int .i64 c) ∧ Below w.heap.size w w' := by
 have HB := as_ (Below.refl w.heap.size w)
 go_enter Tryz.func66, Tryz.ntmps66
 go_wp2
 go_loopg [7] 4 (fun kq v7 w' => ∃ x7 : Int, v7 = .int .i64 x7 ∧ Aside0 (Below w.heap.size w w' ∧ Errs v c w') ∧ w'.cell? ⟨w.heap.size, 0, none⟩ = some (.int .i64 4) ∧ w'.cell? ⟨w.heap.size, 1, none⟩ = some (.int .i64 3) ∧ w'.cell? ⟨w.heap.size, 2, none⟩ = some (.int .i64 8) ∧
  Aside0 ((x7 = 0 ∧ kq = 4) ∨ (x7 = 1 ∧ kq = 3 ∧ (c == 4) = false) ∨ (x7 = 2 ∧ kq = 2 ∧ (c == 4) = false ∧ (c == 3) = false) ∨ (x7 = 3 ∧ kq = 1 ∧ (c == 4) = false ∧ (c == 3) = false ∧ (c == 8) = false)))
 case atStart =>
  refine ⟨0, rfl, ⟨Below.alloc HB.out (Nat.le_refl _) _, h.below (Nat.le_refl _) (Below.alloc HB.out (Nat.le_refl _) _)⟩, ?_, ?_, ?_, ⟨.inl ⟨rfl, rfl⟩⟩⟩
  all_goals simp [go_sem]
 case round =>
  obtain ⟨x7, rfl, ⟨hb, he⟩, g0, g1, g2, ⟨hx⟩⟩ := hrel
  have HB2 := Aside0.mk hb
  clear hb
  rcases hx with ⟨rfl, rfl⟩ | ⟨rfl, rfl, c4⟩ | ⟨rfl, rfl, c4, c3⟩ | ⟨rfl, rfl, c4, c3, c8⟩
  ·go_wp2_with fail
   refine (Is_any v c 4 (by decide) _ he).mono ?_
   rintro e w' ⟨rfl, hb3⟩
   have g0' := (hb3.cell (cell_lt g0)).trans g0
   have g1' := (hb3.cell (cell_lt g1)).trans g1
   have g2' := (hb3.cell (cell_lt g2)).trans g2
   have he' := he.below (Nat.le_refl _) hb3
   have HB3 := as_ (HB2.out.trans (hb3.mono HB2.out.size))
   clear hb3
   cases hcd : (c == 4)
   ·go_wp2
    go_roundg 3
    ·exact ⟨1, rfl, ⟨HB3.out, he'⟩, g0', g1', g2', ⟨.inr (.inl ⟨rfl, rfl, hcd⟩)⟩⟩
    ·omega
   ·have hcd' : c = 4 := by simpa using hcd
    go_wp2
    go_ret
    exact ⟨by rw [hcd']; rfl, HB3.out⟩
  ·go_wp2_with fail
   refine (Is_any v c 3 (by decide) _ he).mono ?_
   rintro e w' ⟨rfl, hb3⟩
   have g0' := (hb3.cell (cell_lt g0)).trans g0
   have g1' := (hb3.cell (cell_lt g1)).trans g1
   have g2' := (hb3.cell (cell_lt g2)).trans g2
   have he' := he.below (Nat.le_refl _) hb3
   have HB3 := as_ (HB2.out.trans (hb3.mono HB2.out.size))
   clear hb3
   cases hcd : (c == 3)
   ·go_wp2
    go_roundg 2
    ·exact ⟨2, rfl, ⟨HB3.out, he'⟩, g0', g1', g2', ⟨.inr (.inr (.inl ⟨rfl, rfl, c4, hcd⟩))⟩⟩
    ·omega
   ·have hcd' : c = 3 := by simpa using hcd
    go_wp2
    go_ret
    exact ⟨by rw [hcd']; rfl, HB3.out⟩
  ·go_wp2_with fail
   refine (Is_any v c 8 (by decide) _ he).mono ?_
   rintro e w' ⟨rfl, hb3⟩
   have g0' := (hb3.cell (cell_lt g0)).trans g0
   have g1' := (hb3.cell (cell_lt g1)).trans g1
   have g2' := (hb3.cell (cell_lt g2)).trans g2
   have he' := he.below (Nat.le_refl _) hb3
   have HB3 := as_ (HB2.out.trans (hb3.mono HB2.out.size))
   clear hb3
   cases hcd : (c == 8)
   ·go_wp2
    go_roundg 1
    ·exact ⟨3, rfl, ⟨HB3.out, he'⟩, g0', g1', g2', ⟨.inr (.inr (.inr ⟨rfl, rfl, c4, c3, hcd⟩))⟩⟩
    ·omega
   ·have hcd' : c = 8 := by simpa using hcd
    go_wp2
    go_ret
    exact ⟨by rw [hcd']; rfl, HB3.out⟩
  ·have c0 : c = 0 := by
    rcases hc with h | h | h | h
    ·exact h
    all_goals (subst h; simp at c4 c3 c8)
   go_wp2
   go_ret
   exact ⟨by rw [c0]; rfl, HB2.out⟩
def head_may.sized (p : Int) : Bool := decide (p = 128) || decide (p = 256) || decide (p = 512) || decide (p = 1024)
def head_may.right (a0_0 a0_1 a0_2 a0_3 a0_4 : Int) : Bool := decide (a0_0 ≥ 1) && decide (a0_0 < 5) && decide (0 ≤ a0_1) && decide (a0_1 < 256) && decide (0 ≤ a0_2) && decide (a0_2 < 65536) && decide (0 ≤ a0_3) && decide (a0_3 < 4096) && decide (0 ≤ a0_4) && decide (a0_4 < 4096)
def head_may.code (a0_0 a0_1 a0_2 a0_3 a0_4 : Int) (body : ByteArray) (p : Int) : Int := if head_may.sized p = true then (if head_may.right a0_0 a0_1 a0_2 a0_3 a0_4 = true then (if p - 16 < (body.size : Int) then 8 else 0) else 3) else 4
def head_may.f (a0_0 a0_1 a0_2 a0_3 a0_4 : Int) (body : ByteArray) (p : Int) : Option Int := some (head_may.code a0_0 a0_1 a0_2 a0_3 a0_4 body p)
theorem within_one (b x : Int) : head_within.f 2 b [x] = some (decide (0 ≤ x) && decide (x < b)) := by
 simp only [head_within.f, head_within.l0, rd, List.length_cons, List.length_nil]
 by_cases h0 : x < 0 <;> by_cases h1 : x ≥ b <;> simp [h0, h1, wrap64] <;> omega
theorem within_two (b x y : Int) : head_within.f 3 b [x, y] = some (decide (0 ≤ x) && decide (x < b) && decide (0 ≤ y) && decide (y < b)) := by
 simp only [head_within.f, head_within.l0, rd, List.length_cons, List.length_nil]
 by_cases h0 : x < 0 <;> by_cases h1 : x ≥ b <;> by_cases h2 : y < 0 <;> by_cases h3 : y ≥ b <;> simp [h0, h1, h2, h3, wrap64] <;> omega
theorem right_eq (a0 a1 a2 a3 a4 : Int) : head_Right.f 3 a0 a1 a2 a3 a4 = some (head_may.right a0 a1 a2 a3 a4) := by
 have m : ∀ b x, head_within.f 3 b [x] = some (decide (0 ≤ x) && decide (x < b)) := fun b x => head_within.mono b [x] 2 _ (within_one b x)
 simp only [head_Right.f, m, within_two, head_may.right, Option.bind_some]
 by_cases h0 : a0 ≥ 1 <;> by_cases h1 : a0 < 5 <;> simp only [h0, h1, if_true, if_false, decide_true, decide_false, Bool.true_and, Bool.false_and]
 cases hA : (decide (0 ≤ a1) && decide (a1 < 256)) <;> cases hB : (decide (0 ≤ a2) && decide (a2 < 65536)) <;> simp_all <;> (intros; omega)
set_option maxRecDepth 100000 in
set_option maxHeartbeats 4000000 in
theorem head_may.calls (a0_0 a0_1 a0_2 a0_3 a0_4 : Int) (body : ByteArray) (p : Int) (r : Int) (w : World) (h : head_may.f a0_0 a0_1 a0_2 a0_3 a0_4 body p = some r) :
  Calls Tryz.prog 67 #[.agg #[.int .i64 a0_0, .int .i64 a0_1, .int .i64 a0_2, .int .i64 a0_3, .int .i64 a0_4], .string body, .int .i64 p] w fun e w' => ∃ v, e = .returned v ∧ Errs v r w' ∧ (r = 0 ∨ r = 4 ∨ r = 3 ∨ r = 8) ∧ Below w.heap.size w w' := by
 have HB := as_ (Below.refl w.heap.size w)
 have H := as_ (Option.some.inj h)
 clear h
 have hu23 := Tryz.underlying71
 go_enter Tryz.func67, Tryz.ntmps67
 go_wp2_with fail
 refine (disk_Size.calls p (head_may.sized p) _ rfl).mono ?_
 rintro e w1 ⟨rfl, hb⟩
 have HB1 := as_ ((Below.alloc HB.out (Nat.le_refl _) _).trans (hb.mono (by simp)))
 have c0 : w1.cell? ⟨w.heap.size, 0, none⟩ = some (.int .i64 a0_0) := (hb.cell (p := ⟨w.heap.size, 0, none⟩) (by simp)).trans (World.cell?_alloc_new w _ _ 0)
 have c1 : w1.cell? ⟨w.heap.size, 1, none⟩ = some (.int .i64 a0_1) := (hb.cell (p := ⟨w.heap.size, 1, none⟩) (by simp)).trans (World.cell?_alloc_new w _ _ 1)
 have c2 : w1.cell? ⟨w.heap.size, 2, none⟩ = some (.int .i64 a0_2) := (hb.cell (p := ⟨w.heap.size, 2, none⟩) (by simp)).trans (World.cell?_alloc_new w _ _ 2)
 have c3 : w1.cell? ⟨w.heap.size, 3, none⟩ = some (.int .i64 a0_3) := (hb.cell (p := ⟨w.heap.size, 3, none⟩) (by simp)).trans (World.cell?_alloc_new w _ _ 3)
 have c4 : w1.cell? ⟨w.heap.size, 4, none⟩ = some (.int .i64 a0_4) := (hb.cell (p := ⟨w.heap.size, 4, none⟩) (by simp)).trans (World.cell?_alloc_new w _ _ 4)
 cases hs : head_may.sized p
 ·go_wp2_with fail
  refine (fault_calls _ 4 _).mono ?_
  rintro e w2 ⟨gj, gb, cap, u2, rfl, j1, j2, j3, j4, j5, hb2⟩
  have hr : r = 4 := by rw [← H.out]; simp [head_may.code, hs]
  have HB2 := as_ (HB1.out.trans (hb2.mono (HB1.out.size)))
  clear hb2 
  go_wp2
  go_ret
  exact ⟨_, rfl, .inr ⟨by omega, gj, gb, cap, u2, rfl, j1, j2, by rw [hr]; exact j3⟩, by omega, HB2.out⟩
 ·go_wp2_with fail
  refine (head_Right.calls 3 a0_0 a0_1 a0_2 a0_3 a0_4 _ _ (right_eq _ _ _ _ _)).mono ?_
  rintro e w2 ⟨rfl, hb2⟩
  have HB2 := as_ (HB1.out.trans (hb2.mono (HB1.out.size)))
  clear hb2
  cases hR : head_may.right a0_0 a0_1 a0_2 a0_3 a0_4
  ·go_wp2_with fail
   refine (fault_calls _ 3 _).mono ?_
   rintro e w3 ⟨gj, gb, cap, u2, rfl, j1, j2, j3, j4, j5, hb3⟩
   have hr : r = 3 := by rw [← H.out]; simp [head_may.code, hs, hR]
   have HB3 := as_ (HB2.out.trans (hb3.mono (HB2.out.size)))
   clear hb3
   go_wp2
   go_ret
   exact ⟨_, rfl, .inr ⟨by omega, gj, gb, cap, u2, rfl, j1, j2, by rw [hr]; exact j3⟩, by omega, HB3.out⟩
  ·have hp : p = 128 ∨ p = 256 ∨ p = 512 ∨ p = 1024 := by simpa [head_may.sized, or_assoc] using hs
   have hw1 : (IntKind.i64.wrap (p - 16)) = p - 16 := by rw [IntKind.wrap_i64]; omega
   cases hL : decide (p - 16 < (body.size : Int))
   ·have hL' : ¬ p - 16 < (body.size : Int) := of_decide_eq_false hL
    have hr : r = 0 := by rw [← H.out]; simp only [head_may.code, hs, hR, if_true, if_neg hL']
    go_wp2
    go_ret
    exact ⟨_, rfl, .inl ⟨hr, rfl⟩, .inl hr, HB2.out⟩
   ·have hL' : p - 16 < (body.size : Int) := of_decide_eq_true hL
    have hr : r = 8 := by rw [← H.out]; simp only [head_may.code, hs, hR, if_true, if_pos hL']
    go_wp2_with fail
    refine (fault_calls _ 8 _).mono ?_
    rintro e w3 ⟨gj, gb, cap, u2, rfl, j1, j2, j3, j4, j5, hb3⟩
    have HB3 := as_ (HB2.out.trans (hb3.mono (HB2.out.size)))
    clear hb3
    go_wp2
    go_ret
    exact ⟨_, rfl, .inr ⟨by omega, gj, gb, cap, u2, rfl, j1, j2, by rw [hr]; exact j3⟩, by omega, HB3.out⟩
theorem head_may.calls2 (v : Value) (c : Int) (hc : c = 0 ∨ c = 4 ∨ c = 3 ∨ c = 8) (w : World) (h : Errs v c w) : Calls Tryz.prog 66 #[v] w fun e w' => e = .returned (.int .i64 c) ∧ Below w.heap.size w w' := number_calls v c hc w h


/-! ### head_bytes: function 68 -/
def head_bytes.l0 : Nat → List Int → List Int → Int → Int → Option (ByteArray)
 | 0, _, _, _, _ => none
 | k + 1, x3, x6, x7, x8 => if x8 < x7 then (if 0 ≤ x8 then (if x8 < (x6.length : Int) then (if x3.length < 140737488355328 then (head_bytes.l0 k (x3 ++ [(rd x6 x8) % 256]) x6 x7 (wrap64 (x8 + 1))) else (none)) else (none)) else (none)) else (some (strOfNums x3))
def head_bytes.f (k : Nat) (l0 : List Int) : Option (ByteArray) := head_bytes.l0 k ([] : List Int) l0 (l0.length : Int) 0
theorem head_bytes.mono_l : ∀ k, (∀ y0 y1 y2 y3, LeO (head_bytes.l0 k y0 y1 y2 y3) (head_bytes.l0 (k + 1) y0 y1 y2 y3))
 | 0 => fun _ _ _ _ r h => by simp [head_bytes.l0] at h
 | k + 1 => by
  have ih0 := head_bytes.mono_l k
  ·intro y0 y1 y2 y3
   unfold head_bytes.l0
   repeat' first
   | (with_reducible exact ih0 _ _ _ _)
   | (with_reducible exact LeO.refl _)
   | (with_reducible exact LeO.none _)
   | (with_reducible refine LeO.ite ?_ ?_)
   | (with_reducible refine LeO.bind ?_ (fun _ => ?_))
   | exact ih0 _ _ _ _
   | exact LeO.none _
   | refine LeO.ite ?_ ?_
   | refine LeO.bind ?_ (fun _ => ?_)
theorem head_bytes.mono : ∀ a0 k, LeO (head_bytes.f k a0) (head_bytes.f (k + 1) a0) := by
 intro a0 k
 have ih0 := head_bytes.mono_l k
 unfold head_bytes.f
 repeat' first
   | (with_reducible exact ih0 _ _ _ _)
   | (with_reducible exact LeO.refl _)
   | (with_reducible exact LeO.none _)
   | (with_reducible refine LeO.ite ?_ ?_)
   | (with_reducible refine LeO.bind ?_ (fun _ => ?_))
   | exact ih0 _ _ _ _
   | exact LeO.none _
   | refine LeO.ite ?_ ?_
   | refine LeO.bind ?_ (fun _ => ?_)
set_option maxHeartbeats 8000000 in
set_option maxRecDepth 100000 in
theorem head_bytes.calls (k : Nat) (A0 : Option Addr) (c0 : Nat) (l0 : List Int) (r : ByteArray) (w : World) (hr0 : Kd.C (Kd.int .i64) w A0 l0.length l0) (hc0 : l0.length ≤ c0) (h : head_bytes.f k l0 = some r) :
  Calls Tryz.prog 68 #[.slice A0 l0.length c0] w fun e w' => e = .returned (.string r) ∧ Below w.heap.size w w' := by
 have HR0 := Aside0.mk hr0
 have HC0 := Aside0.mk hc0
 clear hr0 hc0
 have HB := as_ (Below.refl w.heap.size w)
 have H : (head_bytes.l0 k ([] : List Int) l0 (l0.length : Int) 0) = some r := h
 clear h
 have H' := Aside0.mk H
 clear H
 go_enter Tryz.func68, Tryz.ntmps68
 go_wp2
 go_loopg [3, 8] k (fun kq v3 v8 w' => ∃ (x3_1 : List Int) (x8_1 : Int), v8 = .int .i64 x8_1 ∧ Aside0 (head_bytes.l0 kq x3_1 l0 (l0.length : Int) x8_1 = some r) ∧ Aside0 (kq ≤ k) ∧ Aside0 (Kd.R (Kd.int .u8) 5 w' w.heap.size (fun _ => True) v3 x3_1) ∧ Aside0 (Below w.heap.size w w'))
 case atStart => exact ⟨(([] : List Int)), (0), (by first | rfl | (simp; done) | (simp [*]; done)), H', ⟨Nat.le_refl _⟩, ⟨by first | exact Kd.R_nil _ _ _ _ _ | exact Kd.N_nil _ _ _ _ _ | exact Kd.V_nil _ _ _ _ _ | exact Kd.Q_nil _ _ _ _ _ | exact Kd.S_nil _ _ _ _ _⟩, ⟨bA⟩⟩
 case round =>
  clear H'
  obtain ⟨x3_1, x8_1, rfl, HA, HK1, HO_3, HB⟩ := hrel
  cases gk with
  | zero => exact absurd HA.out (by simp [head_bytes.l0])
  | succ k1 =>
   have H := HA.out
   clear HA
   simp only [head_bytes.l0] at H
   by_cases c2 : x8_1 < (l0.length : Int)
   rotate_left
   ·rw [if_neg c2] at H
    have c2b0 := decide_eq_false c2
    clear c2
    obtain rfl := Option.some.inj H
    have hcv7 := own_string (P := Tryz.prog) Tryz.underlying98 Tryz.underlying5 Tryz.underlying9 (Kd.own_of_R HO_3.out)
    go_wp2
    go_ret
    exact ⟨eW, bA⟩
 
   rw [if_pos c2] at H
   have c2b0 := decide_eq_true c2
   clear c2
   obtain ⟨c3, H⟩ := iN (c := 0 ≤ x8_1) H
   have c3b0 := decide_eq_true c3
   clear c3
   obtain ⟨c4, H⟩ := iN (c := x8_1 < (l0.length : Int)) H
   have c4b0 := decide_eq_true c4
   clear c4
   obtain ⟨c5, H⟩ := iN (c := x3_1.length < 140737488355328) H
   have LMc5 := Aside0.mk c5
   clear c5
   obtain ⟨y225, hy225⟩ : ∃ y_ : List Int, y_ = (x3_1 ++ [(rd l0 x8_1) % 256]) := ⟨_, rfl⟩
   replace H : (head_bytes.l0 k1 y225 l0 (l0.length : Int) (wrap64 (x8_1 + 1))) = some r := by first | (rw [hy225]; with_reducible exact H) | (have H2_ := (Option.bind_some _ _).symm.trans H; rw [hy225]; with_reducible exact H2_) | (have H2_ := (Option.bind_some _ _).symm.trans H; with_reducible exact H2_) | with_reducible exact H | (rw [hy225]; exact H) | exact H
   have Ny225 := Aside0.mk hy225
   clear hy225
   have H' := Aside0.mk H
   clear H
   have p224 : 0 ≤ (x8_1 : Int) := of_decide_eq_true aM
   have q224 : x8_1 < (l0.length : Int) := of_decide_eq_true aM
   obtain ⟨ad224, e224, hx224_0⟩ := Kd.at_int HR0.out x8_1 p224 q224
   cases e224
   replace hx224_0 := (HB.out.cell (World.block_lt_of_cell? w _ hx224_0)).trans hx224_0
   replace p224 := eq_true p224
   replace q224 := eq_true q224
   go_wp2_with (first | ((with_reducible refine gate_builtin (b := .append) (xs := #[.tmp 12, .tmp 15]) rfl ?_); at_builtin; refine Kd.R_append (Kd.int .u8) (w0 := w) w.heap.size rfl (.tmp 12) (.tmp 15) 98 5 (.int .u8 0) 1 rfl Tryz.underlying98 info5 rfl (by decide) (by omega) u3 x3_1 ((rd l0 x8_1) % 256) [.int .u8 ((rd l0 x8_1) % 256)] (fun _ => True) (fun _ => False) rfl rfl ?aP (fun _ hk => hk.elim) ?aF ?aO ?aB ?aS ?aL ?_; (case aP => exact rfl); (case aB => exact bA); (case aF => exact (fun _ _ => trivial)); (case aO => exact (rD HO_3)); (case aS => exact (below_size bA)); (case aL => have := LMc5.out; omega); intro v226 w6 ho hb hg hat; rw [← Ny225.out] at ho; have HO227 := as_ (ho); replace HB := as_ (hb); clear HO_3; clear ho hb hg hat))
   go_roundg k1
   case measure => have := HK1.out; omega
   case rel => exact ⟨(y225), (wrap64 (x8_1 + 1)), (by first | rfl | (simp; done) | (simp [*]; done)), H', ⟨by have := HK1.out; omega⟩, ⟨by (with_reducible repeat (first | apply Kd.R_alloc | apply Kd.R_drewN | apply Kd.R_drew)); exact HO227.out⟩, ⟨bA⟩⟩
/-! ### sum_step: function 128, by hand -/
def sum_shift (r : Int) : Int := if Go.bits .and .u32 r 1 = 1 then Go.bits .xor .u32 (r / 2) 2197175160 else r / 2
def sum_stepN : Nat → Int → Int
 | 0, r => r
 | n + 1, r => sum_stepN n (sum_shift r)
def sum_step.f (a0 : Int) : Option (Int) := some (sum_stepN 8 a0)
theorem sum_shift.calls (B : Nat) (r : Int) (w : World) (hb : w.heap[B]? = some (.cells #[.int .u32 r] 112 (0, 0))) :
  Calls Tryz.prog 129 #[.pointer (some ⟨B, 0, none⟩)] w fun e w' => (∃ v, e = .returned v) ∧ w'.heap[B]? = some (.cells #[.int .u32 (sum_shift r)] 112 (0, 0)) ∧ Below B w w' := by
 have hc : w.cell? ⟨B, 0, none⟩ = some (.int .u32 r) := (blk_cell hb 0).trans rfl
 have hf := blk_frozen hb 0
 have BK := Aside0.mk hb
 clear hb
 by_cases c : Go.bits .and .u32 r 1 = 1
 rotate_left
 ·have c0 : (Go.bits .and .u32 r 1 == 1) = false := beq_eq_false_iff_ne.mpr c
  have E : Aside0 (sum_shift r = r / 2) := ⟨if_neg c⟩
  clear c
  go_enter Tryz.func129, Tryz.ntmps129
  go_wp2
  go_end0
  exact ⟨⟨_, rfl⟩, by rw [E.out]; exact blk_put BK.out 0 _ rfl, (Below.refl B w).setCell (p := ⟨B, 0, none⟩) (Nat.le_refl _) _⟩
 have c0 : (Go.bits .and .u32 r 1 == 1) = true := beq_iff_eq.mpr c
 have E : Aside0 (sum_shift r = Go.bits .xor .u32 (r / 2) 2197175160) := ⟨if_pos c⟩
 clear c
 go_enter Tryz.func129, Tryz.ntmps129
 go_wp2
 go_end0
 exact ⟨⟨_, rfl⟩, by rw [E.out]; exact blk_put (blk_put BK.out 0 _ rfl) 0 _ rfl, ((Below.refl B w).setCell (p := ⟨B, 0, none⟩) (Nat.le_refl _) _).setCell (p := ⟨B, 0, none⟩) (Nat.le_refl _) _⟩
theorem sum_step.calls (a0 : Int) (r : Int) (w : World) (h : sum_step.f a0 = some r) :
  Calls Tryz.prog 128 #[.int .u32 a0] w fun e w' => e = .returned (.int .u32 r) ∧ Below w.heap.size w w' := by
 obtain rfl := Option.some.inj h
 clear h
 have HB := as_ (Below.refl w.heap.size w)
 go_enter Tryz.func128, Tryz.ntmps128
 go_wp2_with (first | ((with_reducible refine gate_dst (N := 1) rfl ?_); refine box_event (by rfl) (N := 1) (by rfl) (cs := #[.int .u32 a0]) (t := 112) gS ?_; intro gb hg w1 hbox hb; have BK := Aside0.mk hbox; have GE := gw hg bA; replace HB := as_ (below_step bA hb); clear hb hbox hg))
 go_loopg [5] 9 (fun kq v5 w' => ∃ (j : Nat) (x : Int), v5 = .int .i64 (j : Int) ∧ Aside0 (j ≤ 8 ∧ kq + j = 9 ∧ sum_stepN (8 - j) x = sum_stepN 8 a0) ∧ Aside0 (w'.heap[gb]? = some (.cells #[.int .u32 x] 112 (0, 0))) ∧ Aside0 (Below w.heap.size w w'))
 case atStart => exact ⟨0, a0, rfl, ⟨⟨by omega, rfl, rfl⟩⟩, BK, HB⟩
 case round =>
  clear HB BK
  obtain ⟨j, x, rfl, HX, BK, HB⟩ := hrel
  by_cases c : j < 8
  rotate_left
  ·have c0 : ¬ (j : Int) < 8 := by omega
   have c1 : decide ((j : Int) < 8) = false := decide_eq_false c0
   clear c0
   have e8 : j = 8 := by have := HX.out; omega
   have hc : wr.cell? ⟨gb, 0, none⟩ = some (.int .u32 x) := (blk_cell BK.out 0).trans rfl
   go_wp2
   go_ret
   refine ⟨?_, by repeat (first | exact HB.out | apply below_alloc | apply pw_below_drewN | apply below_drew1)⟩
   have := HX.out.2.2
   rw [e8] at this
   rw [← this]
   rfl
 
 
  have c0 : (j : Int) < 8 := by omega
  have c1 : decide ((j : Int) < 8) = true := decide_eq_true c0
  clear c0
  go_wp2_with fail
  refine (sum_shift.calls gb x _ (by exact BK.out)).mono ?_
  rintro e w2 ⟨⟨v, rfl⟩, hk, hb⟩
  have n0_ := as_ (HB.out.trans (hb.mono GE.out) : Below w.heap.size w w2)
  have n1_ := Aside0.mk hk
  clear HB BK hb hk
  have HB := n0_
  have BK := n1_
  clear n0_ n1_
  go_wp2
  go_roundg (8 - j)
  case measure => have := HX.out; omega
  case rel =>
   refine ⟨j + 1, sum_shift x, ?_, ⟨by have := HX.out; refine ⟨by omega, by omega, ?_⟩; rw [← this.2.2, show 8 - j = (8 - (j + 1)) + 1 by omega]; rfl⟩, BK, HB⟩
   first | rfl | (simp; done)
-- NOT PRINTED: function 123 (sum_table)

end Go.Proofs.YtafebmhmcdnhkaaGreat.P
