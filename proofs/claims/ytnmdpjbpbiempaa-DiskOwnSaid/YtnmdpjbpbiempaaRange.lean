/- What is proved here: a range over a function whose iterator keeps state of its own in cells: the statement out of the iterator's own walk. Conditions: as each row names them. -/
import Derived.RangeFuncNested
import Derived.RangeFuncLeaves
import Derived.RangeFuncCalls
namespace Go.Proofs.YtnmdpjbpbiempaaRange
open Go Go.RowKit
variable {F : Fence} {n : Nat} {P : Program}

/-- The record of the loop, by its state and its pending jump. -/
abbrev LoopRec := LoopState → Option Code → Loop

/-- What a round owes at its end: the record is busy; what stands behind 'endRound' is taken. -/
def endPost (l : Nat) (rec : LoopRec) (R : Ending → World → Prop) : Exit → Act → World → Prop
  | .normal, _, W => W.heap[l]? = some (.loop (rec .busy none)) ∧ R (.returned (.bool true)) (W.putObj l (.loop (rec .ready none)))
  | .ret, _, W => W.heap[l]? = some (.loop (rec .busy none)) ∧ R (.returned (.bool false)) (W.putObj l (.loop (rec .done (some .ret))))
  | .exit id, _, W => W.heap[l]? = some (.loop (rec .busy none)) ∧ R (.returned (.bool false)) (W.putObj l (.loop (rec .done (some (.exit id)))))
  | .goto t, _, W => W.heap[l]? = some (.loop (rec .busy none)) ∧ R (.returned (.bool false)) (W.putObj l (.loop (rec .done (some (.goto t)))))
  | .panic _, _, _ => False
  | .outgrown, _, _ => False

/-- A call of yield: the assignments, then the body, each walked in a round's frame. -/
def Yields (F : Fence) (m : Nat) (P : Program) (l : Nat) (rec : LoopRec) (ps : Array Tmp) (tmps : Array Value) (assign body : Code) : Prop :=
  ∀ (W : World) (args : Array Value) (R : Ending → World → Prop), args.size = ps.size → W.heap[l]? = some (.loop (rec .ready none)) →
    assign.wpIn (F.inRound l) m P (Exit.then (fun a' Wa => Wa.heap[l]? = some (.loop (rec .ready none)) ∧ body.wpIn (F.inRound l) m P (endPost l rec R) a' (Wa.putObj l (.loop (rec .busy none)))) (fun _ _ _ => False))
      { tmps := (ps.zip args).foldl (fun t (p, v) => t.setIfInBounds p v) tmps, defers := [] } W →
    YieldAt F m P l args W R

theorem rangeFunc_walk {g : Operand} {ps : Array Tmp} {assign body : Code} {Q : Exit → Act → World → Prop} {a : Act} {w : World}
    (hro : F.round = none) (h1 : 1 ≤ n) {gf : Nat} {lb : Array Value} (hg : a.eval g = .func (.func gf) #[] lb) (hFg : F.fn gf) (eg : ∀ args w, (callFunc gf args).run P w = .ok (.enter gf args) w)
    (h : ∀ rec : LoopRec, Yields F (n - 1 - 1) P (w.heap.size + 1) rec ps a.tmps assign body →
      CallsIn F (n - 1) P gf (#[.func (.yield (w.heap.size + 1)) #[] #[]] ++ lb) ((w.alloc (.deferred (some []))).alloc (.loop (rec .ready none))) fun e W =>
        (∃ v, e = .returned v) ∧ ((W.heap[w.heap.size + 1]? = some (.loop (rec .ready none)) ∧ Q .normal { a with defers := { target := .collected w.heap.size, args := #[] } :: a.defers } (W.putObj (w.heap.size + 1) (.loop (rec .exhausted none)))) ∨
          ∃ c, W.heap[w.heap.size + 1]? = some (.loop (rec .done (some c))) ∧ c.wpIn F n P Q { a with defers := { target := .collected w.heap.size, args := #[] } :: a.defers } (W.putObj (w.heap.size + 1) (.loop (rec .exhausted (some c)))))) :
    (Code.rangeFunc g ps assign body).wpIn F n P Q a w := by
  refine wpIn_rangeFunc ?_
  intro fn hfn
  rw [hro]
  obtain ⟨rec, hrec⟩ : ∃ rec : LoopRec, rec = fun st pe => { state := st, pending := pe, fn, tmps := a.tmps, params := ps, assign, body, defers := w.heap.size } := ⟨_, rfl⟩
  refine ⟨w.heap.size + 1, [{ target := .collected w.heap.size, args := #[] }], (w.alloc (.deferred (some []))).alloc (.loop (rec .ready none)), { target := .fn (.func gf) lb, args := #[.func (.yield (w.heap.size + 1)) #[] #[]] }, (w.alloc (.deferred (some []))).alloc (.loop (rec .ready none)), gf,
    #[.func (.yield (w.heap.size + 1)) #[] #[]] ++ lb, (w.alloc (.deferred (some []))).alloc (.loop (rec .ready none)), ?_, ?_, ?_, ?_, fun _ => h1, ?_⟩
  · rw [hrec]; exact run_enterLoop_outer _ _ _ _ _
  · simp only [resolve, hg]
    simp [go_sem]
  · intro f' hf'; simp [Target.leads] at hf'; subst hf'; exact hFg
  · simp [invoke, go_sem, eg]
  · refine (h rec ?_).mono ?_
    · intro W args R hsz hl hw
      have hy := run_yield (P := P) (args := args) hl (by rw [hrec]; exact hsz)
      rw [hrec] at hy
      refine ⟨fn, _, assign, body, hy, roundIn_of_wpIn hfn (wpIn_mono hw ?_)⟩
      intro e a' Wa hp
      cases e with
      | normal =>
        obtain ⟨hla, hb⟩ := hp
        refine ⟨_, run_beginRound hla (by rw [hrec]), ?_⟩
        have e2 : ({ rec .ready none with state := .busy } : Loop) = rec .busy none := by rw [hrec]
        rw [e2]
        refine wpIn_mono hb ?_
        have fin : ∀ (jump : Option Code) (W3 : World), W3.heap[w.heap.size + 1]? = some (.loop (rec .busy none)) →
            (Instr.endRound (w.heap.size + 1) jump).run P W3 = .ok (.bool jump.isNone) (W3.putObj (w.heap.size + 1) (.loop (rec (if jump.isNone then .ready else .done) jump))) := fun jump W3 hl3 => by
          have := run_endRound (P := P) jump hl3
          rw [hrec] at this ⊢
          exact this
        intro e3 a3 W3 hp3
        cases e3 with
        | normal => exact ⟨_, _, fin none W3 hp3.1, hp3.2⟩
        | ret => exact ⟨_, _, fin (some .ret) W3 hp3.1, hp3.2⟩
        | exit id => exact ⟨_, _, fin (some (.exit id)) W3 hp3.1, hp3.2⟩
        | goto t => exact ⟨_, _, fin (some (.goto t)) W3 hp3.1, hp3.2⟩
        | panic ch => exact hp3.elim
        | outgrown => exact hp3.elim
      | ret => exact hp.elim
      | exit id => exact hp.elim
      | goto t => exact hp.elim
      | panic ch => exact hp.elim
      | outgrown => exact hp.elim
    · rintro e W2 ⟨⟨v, rfl⟩, (⟨hl, hq⟩ | ⟨c, hl, hq⟩)⟩
      · have := run_endLoop (P := P) hl (by rw [hrec]; simp)
        rw [hrec] at this hq
        exact ⟨none, _, this, hq⟩
      · have := run_endLoop (P := P) hl (by rw [hrec]; simp)
        rw [hrec] at this hq
        exact ⟨some c, _, this, hq⟩
end Go.Proofs.YtnmdpjbpbiempaaRange
