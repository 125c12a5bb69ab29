/- What is proved here: a datum that can be read at a type (a number, a bool, a text, a slice, a struct of these) has its cells as the printed kinds say, and its sizes are within the form's reach. Conditions: the types are as each theorem names them. -/
import Derived.Test.YtnmdpjbpbiempaaWWords
import Derived.Deep.Slices
import Derived.ChangeArms
import Derived.SizedLaws
import Derived.OpenShut
namespace Go.Proofs.YtnmdpjbpbiempaaOpen
open Go.ChangeShapes Go.WideShapes Go.RowKit
open Go.Proofs.YtnmdpjbpbiempaaW.PrintWords

structure Opens (P : Program) (t : TypeId) {α : Type} (d : Kd α) (Fit : α → Prop) : Prop where
  cells : P.cellsOf t = d.sz
  op : ∀ {H : Type} {enc : TypeId × Value → H} {w : World} {base : Nat} {spare : Nat → Bool} {held : Bool} {fuel : Nat} {cs : List Value} {x : DataW H × List MemPlace},
    DataW.trod enc P w base spare held fuel t cs = some x → (∀ n ∈ x.1.weights P t, n ≤ reachBytes) → ∃ a, d.K w a cs ∧ Fit a

theorem opens_int {P : Program} {t : TypeId} {k : IntKind} (ht : P.underlying t = some (.int k)) (hc : P.cellsOf t = 1) : Opens P t (Kd.int k) (fun n => (Lit.int k n).wf = true) :=
  ⟨hc, fun h _ => by
    obtain ⟨n, rfl, _, hw⟩ := DataW.trod_int ht h
    exact ⟨n, rfl, hw⟩⟩
theorem opens_bool {P : Program} {t : TypeId} (ht : P.underlying t = some .bool) (hc : P.cellsOf t = 1) : Opens P t Kd.bool (fun _ => True) :=
  ⟨hc, fun h _ => by
    obtain ⟨n, rfl, _⟩ := DataW.trod_bool ht h
    exact ⟨n, rfl, trivial⟩⟩
theorem opens_string {P : Program} {t : TypeId} (ht : P.underlying t = some .string) (hc : P.cellsOf t = 1) : Opens P t Kd.string (fun s => s.size ≤ 140737488351232) :=
  ⟨hc, fun h hw => by
    obtain ⟨s, rfl, rfl, _⟩ := DataW.trod_string ht h
    refine ⟨s, rfl, ?_⟩
    have := hw s.data.toList.length (by simp [DataW.weights])
    rw [Array.length_toList] at this
    exact this⟩

theorem mem_weightsAll {H : Type} {P : Program} {e : TypeId} : ∀ {l : List (DataW H)} {d : DataW H}, d ∈ l → ∀ n ∈ d.weights P e, n ∈ DataW.weightsAll P e l
  | [], _, h, _, _ => by cases h
  | x :: r, d, h, n, hn => by
    simp only [DataW.weightsAll, List.mem_append]
    rcases List.mem_cons.1 h with rfl | h
    · exact .inl hn
    · exact .inr (mem_weightsAll h n hn)

theorem list_of {α : Type} {p : Nat → α → Prop} : ∀ (n : Nat), (∀ i, i < n → ∃ x, p i x) → ∃ l : List α, l.length = n ∧ ∀ (i : Nat) (x : α), l[i]? = some x → p i x
  | 0, _ => ⟨[], rfl, fun i x h => by simp at h⟩
  | n + 1, h => by
    obtain ⟨l, hl, hp⟩ := list_of n (fun i hi => h i (by omega))
    obtain ⟨x, hx⟩ := h n (by omega)
    refine ⟨l ++ [x], by simp [hl], fun i y hy => ?_⟩
    rcases Nat.lt_or_ge i l.length with hlt | hge
    · rw [List.getElem?_append_left hlt] at hy
      exact hp i y hy
    · rw [List.getElem?_append_right hge] at hy
      have : i = l.length := by
        rcases Nat.lt_or_ge (i - l.length) 1 with h1 | h1
        · omega
        · simp [List.getElem?_eq_none (show [x].length ≤ i - l.length by simpa using h1)] at hy
      subst this
      simp at hy
      subst hy
      rw [hl]
      exact hx

theorem opens_slice {P : Program} {t e : TypeId} {α : Type} {d : Kd α} {Fit : α → Prop} {B : Nat} (ht : P.underlying t = some (.slice e)) (hc : P.cellsOf t = 1) (hB : P.bytesOf e = B) (he : Opens P e d Fit) :
    Opens P t (Kd.slice e d) (fun l => l.length * B ≤ 140737488351232 ∧ l.length ≤ 9223372036854775807 ∧ ∀ a ∈ l, Fit a) :=
  ⟨hc, fun {H enc w base spare held fuel cs x} h hw => by
    rcases Go.Deep.open_slice ht h with ⟨rfl, rfl⟩ | ⟨a, len, cap, m, n, D, Pl, rfl, _, hlc, hcm, hm, rfl, hx⟩
    · exact ⟨[], ⟨none, 0, rfl, Nat.le_refl _, rfl, Nat.zero_le _, fun h0 => absurd h0 (Nat.lt_irrefl _)⟩, by simp, Nat.zero_le _, fun a ha => by cases ha⟩
    · have hlm : len ≤ m := by rw [hm]; split <;> omega
      obtain ⟨l, hl, hp⟩ := list_of (p := fun i v => ∃ cs', w.cells? base (a.add (i * P.cellsOf e)) (P.cellsOf e) = some cs' ∧ d.K w v cs' ∧ Fit v) len (fun i hi => by
        obtain ⟨cs', h1, h2⟩ := hx i (by omega)
        obtain ⟨v, hk, hf⟩ := he.op h2 (fun n hn => hw n (by
          simp only [DataW.weights, ht, List.mem_cons, List.mem_append]
          exact .inr (.inl (mem_weightsAll (List.mem_map.2 ⟨i, List.mem_range.2 hi, rfl⟩) n hn))))
        exact ⟨v, cs', h1, hk, hf⟩)
      have hlen : len ≤ 9223372036854775807 := by unfold maxLen at hcm; omega
      refine ⟨l, ⟨some a, cap, by rw [hl], by omega, rfl, by omega, fun _ => ⟨a, rfl, fun j v hj => ?_⟩⟩, ?_, by omega, fun v hv => ?_⟩
      · obtain ⟨cs', h1, hk, _⟩ := hp j v hj
        obtain ⟨_, hlen', hcell⟩ := World.cells?_some h1
        refine ⟨cs', d.K_len hk, hk, fun i u hu => ?_⟩
        have hi : i < cs'.length := (List.getElem?_eq_some_iff.1 hu).1
        rw [← Go.Deep.add_add, ← he.cells, hcell i (by omega), hu]
      · have h1 := hw ((len + (m - len)) * P.bytesOf e) (by simp [DataW.weights, ht])
        rw [hB] at h1
        rw [hl]
        refine Nat.le_trans (Nat.mul_le_mul_right B (show len ≤ len + (m - len) by omega)) h1
      · obtain ⟨j, hj⟩ := List.getElem?_of_mem hv
        obtain ⟨_, _, _, hf⟩ := hp j v hj
        exact hf⟩

structure OpensF (P : Program) (fs : List Field) (off : Nat) {α : Type} (d : Kd α) (Fit : α → Prop) : Prop where
  op : ∀ {H : Type} {enc : TypeId × Value → H} {w : World} {base : Nat} {spare : Nat → Bool} {held : Bool} {fuel : Nat} {cs : List Value} {xs : List (DataW H × List MemPlace)},
    xs.length = fs.length → (∀ (i : Nat) (f : Field), fs[i]? = some f → DataW.trod enc P w base spare held fuel f.type ((cs.drop f.offset).take (P.cellsOf f.type)) = xs[i]?) → cs.length = off + d.sz →
    (∀ n ∈ DataW.weightsEach P (fs.map (·.type)) (xs.map (·.1)), n ≤ reachBytes) → ∃ a, d.K w a (cs.drop off) ∧ Fit a

theorem opensF_one {P : Program} {f : Field} {off : Nat} {α : Type} {d : Kd α} {Fit : α → Prop} (ho : f.offset = off) (h : Opens P f.type d Fit) : OpensF P [f] off d Fit :=
  ⟨fun {H enc w base spare held fuel cs xs} hl hx hc hw => by
    match xs, hl with
    | [x], _ =>
      have h0 := hx 0 f rfl
      rw [ho, h.cells, List.take_of_length_le (by simp; omega)] at h0
      exact h.op h0 (fun n hn => hw n (by simpa [DataW.weightsEach] using hn))⟩
theorem opensF_cons {P : Program} {f : Field} {fs : List Field} {off : Nat} {α β : Type} {d : Kd α} {d' : Kd β} {Fit : α → Prop} {Fit' : β → Prop} (ho : f.offset = off) (h : Opens P f.type d Fit) (h' : OpensF P fs (off + d.sz) d' Fit') :
    OpensF P (f :: fs) off (Kd.pair d d') (fun x => Fit x.1 ∧ Fit' x.2) :=
  ⟨fun {H enc w base spare held fuel cs xs} hl hx hc hw => by
    match xs, hl with
    | x :: xs, hl =>
      have h0 := hx 0 f rfl
      rw [ho, h.cells] at h0
      obtain ⟨a, ka, fa⟩ := h.op h0 (fun n hn => hw n (by simp [DataW.weightsEach]; exact .inl hn))
      have hs : (Kd.pair d d').sz = d.sz + d'.sz := rfl
      obtain ⟨b, kb, fb⟩ := h'.op (xs := xs) (cs := cs) (by simpa using hl) (fun i g hg => hx (i + 1) g hg) (by omega) (fun n hn => hw n (by simp [DataW.weightsEach] at hn ⊢; exact .inr hn))
      refine ⟨(a, b), ⟨(cs.drop off).take d.sz, cs.drop (off + d.sz), ?_, ka, kb⟩, fa, fb⟩
      rw [← List.drop_drop, List.take_append_drop]⟩
theorem opens_struct {P : Program} {t : TypeId} {fs : Array Field} {l : List Field} {α β : Type} {d : Kd α} {Fit : α → Prop} {f : β → α} (ht : P.underlying t = some (.struct fs)) (hl : fs.toList = l) (hc : P.cellsOf t = d.sz) (h : OpensF P l 0 d Fit) (g : α → β) (hg : ∀ a, f (g a) = a) :
    Opens P t (Kd.iso d f) (fun x => Fit (f x)) :=
  ⟨hc, fun {H enc w base spare held fuel cs x} ho hw => by
    obtain ⟨xs, n, _, rfl, hlc, hlen, hf⟩ := DataW.trod_struct ht ho
    obtain ⟨a, ka, fa⟩ := h.op (xs := xs) (cs := cs) (by rw [hlen, ← hl]; simp) (fun i f hi => hf i f (by rw [← hl] at hi; simpa using hi)) (by omega) (fun n hn => hw n (by simp only [DataW.weights, ht]; rw [hl]; exact hn))
    refine ⟨g a, ?_, by show Fit (f (g a)); rw [hg]; exact fa⟩
    show d.K w (f (g a)) cs
    rw [hg]
    simpa using ka⟩

structure OpensA (P : Program) (e : TypeId) (m off : Nat) {α : Type} (d : Kd α) (Fit : α → Prop) : Prop where
  op : ∀ {H : Type} {enc : TypeId × Value → H} {w : World} {base : Nat} {spare : Nat → Bool} {held : Bool} {fuel : Nat} {cs : List Value} {xs : List (DataW H × List MemPlace)},
    xs.length = m → (∀ (i : Nat), i < m → DataW.trod enc P w base spare held fuel e ((cs.drop (off + i * P.cellsOf e)).take (P.cellsOf e)) = xs[i]?) → cs.length = off + d.sz →
    (∀ n ∈ DataW.weightsAll P e (xs.map (·.1)), n ≤ reachBytes) → ∃ a, d.K w a (cs.drop off) ∧ Fit a
theorem opensA_one {P : Program} {e : TypeId} {off : Nat} {α : Type} {d : Kd α} {Fit : α → Prop} (h : Opens P e d Fit) : OpensA P e 1 off d Fit :=
  ⟨fun {H enc w base spare held fuel cs xs} hl hx hc hw => by
    match xs, hl with
    | [x], _ =>
      have h0 := hx 0 (by omega)
      rw [Nat.zero_mul, Nat.add_zero, h.cells, List.take_of_length_le (by simp; omega)] at h0
      exact h.op h0 (fun n hn => hw n (by simpa [DataW.weightsAll] using hn))⟩
theorem opensA_cons {P : Program} {e : TypeId} {m off : Nat} {α β : Type} {d : Kd α} {d' : Kd β} {Fit : α → Prop} {Fit' : β → Prop} (h : Opens P e d Fit) (h' : OpensA P e m (off + d.sz) d' Fit') :
    OpensA P e (m + 1) off (Kd.pair d d') (fun x => Fit x.1 ∧ Fit' x.2) :=
  ⟨fun {H enc w base spare held fuel cs xs} hl hx hc hw => by
    match xs, hl with
    | x :: xs, hl =>
      have h0 := hx 0 (by omega)
      rw [Nat.zero_mul, Nat.add_zero, h.cells] at h0
      obtain ⟨a, ka, fa⟩ := h.op h0 (fun n hn => hw n (by simp [DataW.weightsAll]; exact .inl hn))
      have hs : (Kd.pair d d').sz = d.sz + d'.sz := rfl
      obtain ⟨b, kb, fb⟩ := h'.op (xs := xs) (cs := cs) (by simpa using hl) (fun i hi => by
        have h1 := hx (i + 1) (by omega)
        rw [show off + (i + 1) * P.cellsOf e = off + d.sz + i * P.cellsOf e by rw [Nat.succ_mul, h.cells]; omega] at h1
        simpa using h1) (by omega) (fun n hn => hw n (by simp [DataW.weightsAll] at hn ⊢; exact .inr hn))
      refine ⟨(a, b), ⟨(cs.drop off).take d.sz, cs.drop (off + d.sz), ?_, ka, kb⟩, fa, fb⟩
      rw [← List.drop_drop, List.take_append_drop]⟩
theorem opens_array {P : Program} {t e : TypeId} {m : Nat} {α β : Type} {d : Kd α} {Fit : α → Prop} {f : β → α} (ht : P.underlying t = some (.array m e)) (hc : P.cellsOf t = d.sz) (h : OpensA P e m 0 d Fit) (g : α → β) (hg : ∀ a, f (g a) = a) :
    Opens P t (Kd.iso d f) (fun x => Fit (f x)) :=
  ⟨hc, fun {H enc w base spare held fuel cs x} ho hw => by
    obtain ⟨xs, n, _, rfl, hlc, hlen, hf⟩ := DataW.trod_array ht ho
    obtain ⟨a, ka, fa⟩ := h.op (xs := xs) (cs := cs) hlen (fun i hi => by rw [Nat.zero_add]; exact hf i hi) (by omega) (fun n hn => hw n (by simp only [DataW.weights, ht]; exact hn))
    refine ⟨g a, ?_, by show Fit (f (g a)); rw [hg]; exact fa⟩
    show d.K w (f (g a)) cs
    rw [hg]
    simpa using ka⟩
theorem okWide_arr {P : Program} {w : World} {r : Reach} {base : Nat} {t e : TypeId} {n : Nat} {v : Value} (ht : P.underlying t = some (.array n e)) (h : Value.okWide P w r base t v) : ∃ cs, v = .agg cs ∧ cs.size = P.cellsOf t := by
  unfold Value.okWide at h
  rw [ht] at h
  obtain ⟨cs, h1, h2, _⟩ := h
  exact ⟨cs, h1, h2⟩

/-- An argument: its datum is one of those whose sizes are known. -/
theorem sized_at {H : Type} {P : Program} {ts : List TypeId} {ds : List (DataW H)} (h : (DataW.weightsEach P ts ds).all (· ≤ reachBytes) = true) {j : Nat} {t : TypeId} {d : DataW H} (ht : ts[j]? = some t) (hd : ds[j]? = some d) : ∀ n ∈ d.weights P t, n ≤ reachBytes := by
  intro n hn
  have := List.all_eq_true.1 h _ (DataW.weights_mem_each ht hd n hn)
  simpa using this
end Go.Proofs.YtnmdpjbpbiempaaOpen
