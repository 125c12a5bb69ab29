/- What is proved here: what a crash leaves of a disk, as plain data; how an open region is walked in a round of a range over a function; how a disk in memory outlasts what touches none of its lists. Conditions: as each theorem names them. -/
import Derived.Test.YtnmdpjbpbiempaaDkN
import Derived.Test.YtnmdpjbpbiempaaRange
import Derived.OwnWalkIn
import Derived.TacticsInMore
import Derived.LoopNIn
import Derived.LoopIn
import Derived.OrdersIn
import Derived.RangeFuncCalls
set_option linter.unusedVariables false
set_option linter.unusedSimpArgs false
namespace Go.Proofs.Ytnmdpjbpbiempaa.P
open Go.RowKit Go.Proofs.YtnmdpjbpbiempaaW.PrintWords Go.Proofs.YtnmdpjbpbiempaaW.PrintLast Go.Proofs.YtnmdpjbpbiempaaW.PrintMore Go.Proofs.YtnmdpjbpbiempaaRange
/-! ### open regions under a fence -/
/-- The wide fence, in a round or in none. -/
def Wd (ro : Option Nat) : Fence := { Fence.wide with round := ro }
theorem Wd_none : Wd none = Fence.wide := rfl
theorem Wd_some (l : Nat) : Wd (some l) = Fence.wide.inRound l := rfl
def noDefer (o : Oper) : Bool := match o.op with | .defer _ => false | _ => true
theorem noDefer_ne {o : Oper} (h : noDefer o = true) : ∀ c, o.op ≠ .defer c := fun c e => by simp [noDefer, e] at h
section
variable {P : Program} {ops : Array Oper} {Q : Exit → Act → World → Prop} {n : Nat} {ro : Option Nat}
theorem oper_in {o : Oper} {a : Act} {w : World} {K : Act → World → Prop} (hd : noDefer o = true) (h : o.wp P a w K Q) : o.wpIn (Wd ro) n P a w K Q := by
  refine ⟨fun _ _ => trivial, ?_⟩
  rw [Oper.semAt_eq _ _ _ (noDefer_ne hd)]
  unfold Oper.wp at h
  generalize (execOp a.eval o).run P w = r at h ⊢
  have hw : ∀ f args w' (R : Ending → World → Prop), Calls P f args w' R → CallsIn (Wd ro) (n - 1) P f args w' R := fun f args w' R hc => (callsIn_wide (n := n - 1)).2 hc
  cases r with
  | ok x w' =>
    cases x with
    | value v => exact h
    | skip => exact h
    | defer d => exact h
    | enter f args => exact ⟨fun h' => by simp [Wd, Fence.wide] at h', hw _ _ _ _ h⟩
    | row row args => exact ⟨fun h' => by simp [Wd, Fence.wide] at h', fun c cs _ => let ⟨v, w', r, s⟩ := h c cs; ⟨v, w', r, stepsIn_wide.2 s⟩⟩
    | _ => exact h.elim
  | halt x w' => cases x <;> exact h
theorem any_in (hd : ops.all noDefer = true) (hQ : ¬ LetsOut Q) {md : Region.Mode} : ∀ (fuel : Nat) (l : Array Bool) (a : Act) (w : World), wpAny P md ops Q fuel l a w → wpAnyIn (Wd ro) n P md ops Q fuel l a w
  | 0, _, _, _, h => h
  | fuel + 1, l, a, w, h => by
    refine ⟨h.1, fun i hi => ?_⟩
    have h2 := h.2 i hi
    unfold wpOp at h2
    unfold wpOpIn
    cases ho : ops[i]? with
    | none =>
      simp only [ho] at h2
      exact any_in hd hQ fuel _ _ _ h2
    | some o =>
      simp only [ho] at h2
      have hdo : noDefer o = true := by
        obtain ⟨hi', e⟩ := Array.getElem?_eq_some_iff.1 ho
        have := Array.all_eq_true.1 hd i hi'
        rwa [e] at this
      show (if Region.wanted o (yielded ops a.tmps) = true then o.wpIn (Wd ro) n P a w _ Q else _)
      by_cases hw : Region.wanted o (yielded ops a.tmps) = true
      · rw [if_pos hw] at h2 ⊢
        rcases h2 with h2 | h2
        · exact Oper.wpIn_mono (fun a w h => any_in hd hQ fuel _ a w h) (oper_in hdo h2)
        · exact absurd h2.2 hQ
      · rw [if_neg hw] at h2 ⊢
        exact ⟨fun _ _ => trivial, any_in hd hQ fuel _ _ _ h2⟩
theorem startW_ {S : World → Prop} {ds : List Nat} {id m : Nat} {a : Act} {w : World} (l : Array Bool) (hm : P.follows .mixedOrders = true) (hn : ops.size = m) (hd : ops.all noDefer = true) (hQ : ¬ LetsOut Q) (hl : Array.replicate m false = l) (hS : S w.drew)
    (h : S w.drew → wpAnyLast P .any ops Q S ds m l a w.drew) : (Code.region id ops true).wpIn (Wd ro) n P Q a w := by
  subst hn
  subst hl
  exact wpIn_region_any hm (any_in hd hQ _ _ _ _ (wpAny_of_last _ _ _ _ (h hS)))
theorem startR_ {r : Nat} {S : World → Prop} {ds : List Nat} {id m : Nat} {a : Act} {w : World} (l : Array Bool) (hm : P.follows .mixedOrders = true) (hn : ops.size = m) (hd : ops.all noDefer = true) (hQ : ¬ LetsOut Q) (hl : Array.replicate m false = l) (hS : S w.drew)
    (h : S w.drew → wpAnyLast P .any ops Q S ds m l a w.drew) : (Code.region id ops true).wpIn (Fence.wide.inRound r) n P Q a w := startW_ (ro := some r) l hm hn hd hQ hl hS h
theorem startN_ {S : World → Prop} {ds : List Nat} {id m : Nat} {a : Act} {w : World} (l : Array Bool) (hm : P.follows .mixedOrders = true) (hn : ops.size = m) (hd : ops.all noDefer = true) (hQ : ¬ LetsOut Q) (hl : Array.replicate m false = l) (hS : S w.drew)
    (h : S w.drew → wpAnyLast P .any ops Q S ds m l a w.drew) : (Code.region id ops true).wpIn Fence.wide n P Q a w := startW_ (ro := none) l hm hn hd hQ hl hS h
end
/-- A region that ends in the plain way alone. -/
def OnlyN (K : Act → World → Prop) : Exit → Act → World → Prop
  | .normal, a, w => K a w
  | _, _, _ => False
/-! ### a disk outlasts -/
theorem DkAt.step {W W' : World} {g : Nat} {own : Option Nat} {d : Dk} (h : DkAt W g own d) (hs : W.heap.size ≤ W'.heap.size) (hm : ∀ k, k < W.heap.size → (k = g ∨ d.M k) → W'.heap[k]? = W.heap[k]?) : DkAt W' g own d := by
  obtain ⟨A3, c3, A4, c4, A5, c5, h0, h1, h2, h3, h4, h5⟩ := h
  exact ⟨A3, c3, A4, c4, A5, c5, (hm _ (blk_lt h0) (.inl rfl)).trans h0, Kd.V_step h1 (fun k ho hk => hm k hk (.inr ho.2.2)), Kd.V_step h2 (fun k ho hk => hm k hk (.inr ho.2.2)), Kd.R_step h3 (fun k ho hk => hm k hk (.inr ho.2)), h4, fun k hk => h5 k (Nat.le_trans hs hk)⟩
/-- Other blocks that its lists may stand in. -/
theorem DkAt.reM {W : World} {g : Nat} {own : Option Nat} {d : Dk} (h : DkAt W g own d) (M' : Nat → Prop) (hm : ∀ k, k < W.heap.size → d.M k → M' k) (hf : ∀ k, W.heap.size ≤ k → M' k) : DkAt W g own { d with M := M' } := by
  obtain ⟨A3, c3, A4, c4, A5, c5, h0, h1, h2, h3, h4, h5⟩ := h
  exact ⟨A3, c3, A4, c4, A5, c5, h0, Kd.V_mono (Kd.V_bound h1) (fun k hk => ⟨hk.1.1, hk.1.2.1, hm k hk.2 hk.1.2.2⟩), Kd.V_mono (Kd.V_bound h2) (fun k hk => ⟨hk.1.1, hk.1.2.1, hm k hk.2 hk.1.2.2⟩), Kd.R_mono (Kd.R_bound h3) (fun k hk => ⟨hk.1.1, hm k hk.2.2.1 hk.1.2⟩), h4, hf⟩
/-- What is synced, stored. -/
theorem DkAt.setKept {W : World} {g base : Nat} {own : Option Nat} {d : Dk} (h : DkAt W g own d) {A : Option Addr} {c : Nat} {xs : List ByteArray} (hR : Kd.R Kd.string 9 W base (fun _ => True) (.slice A xs.length c) xs) (hg : g < base) (ho : ∀ b, own = some b → b < base) (hM : ∀ k, base ≤ k → d.M k) :
    DkAt (W.setCell ⟨g, 3, none⟩ (.slice A xs.length c)) g own { d with kept := xs } := by
  obtain ⟨A3, c3, A4, c4, A5, c5, h0, h1, h2, h3, h4, h5⟩ := h
  have hV := Kd.V_mono (ok' := fun k => k ≠ g ∧ some k ≠ own ∧ d.M k) (Kd.R_V (base' := 0) (Kd.R_tight rfl hR)) (fun k hk => by
    have q := Kd.R_base hR k hk.symm
    exact ⟨by omega, fun e => by have := ho k e.symm; omega, hM k q⟩)
  exact ⟨A, c, A4, c4, A5, c5, blk_put h0 3 _ rfl, Kd.V_far hV (fun _ hk => hk.1) _, Kd.V_far h2 (fun _ hk => hk.1) _, Kd.R_far h3 (fun _ hk => hk.1) _, h4, fun k hk => h5 k (by simpa using hk)⟩
/-! ### choices -/
/-- What becomes of a pending write, and where it is torn. -/
structure Ch where
  f0 : Int
  f1 : Int
def zCh : Ch := ⟨0, 0⟩
def kCh : Kd Ch := Kd.iso (Kd.pair (Kd.int .i64) (Kd.int .i64)) (fun x : Ch => (x.f0, x.f1))
theorem kCh_open {w : World} {x : Ch} {cs : List Value} (h : kCh.K w x cs) : cs = [.int .i64 x.f0, .int .i64 x.f1] := by
  obtain ⟨_, _, rfl, rfl, rfl⟩ := h
  exact rfl
theorem kCh_mk (w : World) (x : Ch) : kCh.K w x [.int .i64 x.f0, .int .i64 x.f1] := ⟨[.int .i64 x.f0], [.int .i64 x.f1], rfl, rfl, rfl⟩
theorem kCh_mkM (w : World) (base : Nat) (ok : Nat → Prop) (x : Ch) : kCh.M w base ok x [.int .i64 x.f0, .int .i64 x.f1] := ⟨[.int .i64 x.f0], [.int .i64 x.f1], rfl, rfl, rfl⟩
def rd_Ch (xs : List Ch) (i : Int) : Ch := xs.getD i.toNat zCh
theorem at_Ch {w : World} {A : Option Addr} {n : Nat} {xs : List Ch} (h : Kd.C kCh w A n xs) (i : Int) (h0 : 0 ≤ i) (h1 : i < n) : ∃ ad, A = some ad ∧ w.cell? (ad.add (i.toNat * 2)) = some (.int .i64 (rd_Ch xs i).f0) ∧ w.cell? ⟨(ad.add (i.toNat * 2)).block, (ad.add (i.toNat * 2)).off + 1, none⟩ = some (.int .i64 (rd_Ch xs i).f1) := by
  obtain ⟨ad, c, e, _, hK, hc0⟩ := Kd.C_get h zCh i h0 h1
  have hc : ∀ j u, c[j]? = some u → w.cell? (ad.add (i.toNat * 2 + j)) = some u := hc0
  obtain rfl := kCh_open hK
  exact ⟨ad, e, hc 0 _ rfl, by rw [← add_field _ _ 1 (by omega)]; exact hc 1 _ rfl⟩
/-! ### what a crash leaves -/
/-- Where a write is torn. -/
def tornAt (p x : Int) : Int := min (max x 0) p
/-- What was there ahead of a write. -/
def wasS (p : Int) (ks : List ByteArray) (i : Int) : ByteArray := if i < (ks.length : Int) then rdOf ByteArray.empty ks i else zeroPage p
/-- A torn page. -/
def tornS (p : Int) (ks : List ByteArray) (x : S79) (at_ : Int) : ByteArray := x.f1.extract 0 (tornAt p at_).toNat ++ (wasS p ks x.f0).extract (tornAt p at_).toNat (wasS p ks x.f0).size
/-- One pending write, by its choice. -/
def crash1 (p : Int) (ks : List ByteArray) (x : S79) (c : Ch) : List ByteArray := if c.f0 = 1 then putL p ks x.f0 x.f1 else if c.f0 = 2 then putL p ks x.f0 (tornS p ks x c.f1) else ks
def crashL (p : Int) : List ByteArray → List S79 → List Ch → List ByteArray
  | ks, x :: xs, c :: cs => crashL p (crash1 p ks x c) xs cs
  | ks, _, _ => ks
theorem crashL_nil (p : Int) (ks : List ByteArray) (xs : List S79) : crashL p ks xs [] = ks := by cases xs <;> rfl
theorem crashL_done (p : Int) (ks : List ByteArray) (cs : List Ch) : crashL p ks [] cs = ks := by cases cs <;> rfl
/-- All pages of one size; what is pending, too, at places that can be. -/
structure Dk.Ok (d : Dk) : Prop where
  few : d.Few
  kept : ∀ x ∈ d.kept, (x.size : Int) = d.p
  now : ∀ x ∈ d.now, (x.size : Int) = d.p
  pend : ∀ x ∈ d.pend, (x.f1.size : Int) = d.p ∧ 0 ≤ x.f0 ∧ x.f0 < d.room
  room2 : d.room < 1099511627776
  klen : (d.kept.length : Int) ≤ d.room
  nlen : (d.now.length : Int) ≤ d.room
theorem zeroPage_size (p : Int) : (zeroPage p).size = p.toNat := by show (Lib.repeatL [0] p.toNat).toArray.size = _; rw [List.size_toArray, repeatL_len]
theorem putL_sizes {p : Int} {l : List ByteArray} {i : Int} {s : ByteArray} (hp : 0 ≤ p) (h : ∀ x ∈ l, (x.size : Int) = p) (hs : (s.size : Int) = p) : ∀ x ∈ putL p l i s, (x.size : Int) = p := by
  intro x hx
  unfold putL at hx
  rcases List.mem_or_eq_of_mem_set hx with hx | rfl
  · rcases List.mem_append.1 hx with hx | hx
    · exact h x hx
    · rw [(List.mem_replicate.1 hx).2, zeroPage_size]; omega
  · exact hs
theorem putL_len {p : Int} {l : List ByteArray} {i : Int} {s : ByteArray} : (putL p l i s).length = max l.length (i.toNat + 1) := by
  unfold putL
  rw [List.length_set, List.length_append, List.length_replicate]
  omega
theorem wasS_size {p : Int} {ks : List ByteArray} {i : Int} (hp : 0 ≤ p) (h0 : 0 ≤ i) (h : ∀ x ∈ ks, (x.size : Int) = p) : ((wasS p ks i).size : Int) = p := by
  unfold wasS
  by_cases c : i < (ks.length : Int)
  · rw [if_pos c]
    refine h _ ?_
    unfold rdOf
    rw [List.getD_eq_getElem?_getD, List.getElem?_eq_getElem (show i.toNat < ks.length by omega)]
    exact List.getElem_mem _
  · rw [if_neg c, zeroPage_size]; omega
theorem tornAt_le {p x : Int} (hp : 0 ≤ p) : 0 ≤ tornAt p x ∧ tornAt p x ≤ p := by unfold tornAt; omega
theorem tornS_size {p : Int} {ks : List ByteArray} {x : S79} {a : Int} (hp : 0 ≤ p) (h0 : 0 ≤ x.f0) (h : ∀ x ∈ ks, (x.size : Int) = p) (hs : (x.f1.size : Int) = p) : ((tornS p ks x a).size : Int) = p := by
  have h1 := wasS_size hp h0 h
  have h2 := tornAt_le (x := a) hp
  unfold tornS
  rw [ByteArray.size_append, ByteArray.size_extract, ByteArray.size_extract]
  omega
end Go.Proofs.Ytnmdpjbpbiempaa.P
