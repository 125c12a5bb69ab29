/- What is proved here: the pure statement of SlotSums: two lists of cells need together what each needs, less one place of the directory; a byte more, one byte more. Conditions: sizes within the form's reach. -/
import Derived.Test.YtkhbmgnjopkeaaaStmtSlotSums
import Derived.Test.YtkhbmgnjopkeaaaSpec2
set_option linter.unusedVariables false
set_option linter.unusedSimpArgs false
namespace Go.Proofs.Ytkhbmgnjopkeaaa.Pure
open Go.RowKit Go.Proofs.YtkhbmgnjopkeaaaW.PrintWords Go.Proofs.YtkhbmgnjopkeaaaW.PrintLast Go.Proofs.YtkhbmgnjopkeaaaW.PrintMore Go.Proofs.YtkhbmgnjopkeaaaEv Go.Proofs.YtkhbmgnjopkeaaaSlot Go.Proofs.Ytkhbmgnjopkeaaa.P Go.Proofs.Ytkhbmgnjopkeaaa.Spec

theorem sums_rest (x2 : Int) (h0 : 0 ≤ x2) (h255 : x2 ≤ 255) (f : ByteArray) (hf : f.size ≤ 60) (cs : List ByteArray) (hl : cs.length ≤ 60) (hs : ∀ c ∈ cs, c.size ≤ 60) (t : Bool) (ht : t = false) :
    Ev (fun k => withylaw08_SlotSums.j0 k x2 f cs (need f cs : Int) t) true := by
  subst ht
  refine ev_step ?_
  simp only [withylaw08_SlotSums.j0]
  refine ev_neg (by decide) ?_
  by_cases hz : cs.length = 0
  · exact ev_pos (by omega) (ev_bind fixed_ev ev_some)
  obtain ⟨a, rfl⟩ := Int.eq_ofNat_of_zero_le h0
  rw [w64 (by omega) (by omega), tmod_range a cs.length (by omega)]
  have hi : a % cs.length < cs.length := Nat.mod_lt _ (by omega)
  have hd := hs _ (List.getElem_mem hi)
  have ez : (⟨#[120]⟩ : ByteArray).size = 1 := rfl
  rw [rdOf_nat _ cs _ hi, Int.toNat_natCast]
  have hes : (cs[a % cs.length] ++ (⟨#[120]⟩ : ByteArray)).size = cs[a % cs.length].size + 1 := by rw [ByteArray.size_append, ez]
  have hc := cat_set cs (a % cs.length) (cs[a % cs.length] ++ (⟨#[120]⟩ : ByteArray)) hi
  have hn : need f cs = f.size + (cat cs).length + 2 * (cs.length + 1) := rfl
  have hn' : need f (cs.set (a % cs.length) (cs[a % cs.length] ++ (⟨#[120]⟩ : ByteArray))) = f.size + (cat (cs.set (a % cs.length) (cs[a % cs.length] ++ (⟨#[120]⟩ : ByteArray)))).length + 2 * ((cs.set (a % cs.length) (cs[a % cs.length] ++ (⟨#[120]⟩ : ByteArray))).length + 1) := rfl
  rw [List.length_set] at hn'
  have hb := need_le f cs (by omega) hl (fun c hc => by have := hs c hc; omega)
  refine ev_neg (by omega) (ev_pos (by omega) (ev_pos (by omega) (ev_pos (by omega) (ev_bind_now (size_eq _ _ (by omega)) (ev_pos ?_ (ev_bind fixed_ev ev_some))))))
  rw [w64 (by omega) (by omega)]
  omega
theorem SlotSums : withylaw08_SlotSums.Pure := by
  intro ⟨f, l⟩ m x2 _ _ hx
  obtain ⟨hx0, hx1⟩ := wf_u8 hx
  have mf := mn_eq (f.size : Int) 60
  have hf := fix60_size f
  have hl := cutAll_length l
  have hs := fun c hc => cutAll_size (l := l) (s := c) hc
  have hl' := cutAll_length m
  have hs' := fun c hc => cutAll_size (l := m) (s := c) hc
  refine Ev.rounds ?_
  show Ev (fun k => withylaw08_SlotSums.f k f l m x2) true
  unfold withylaw08_SlotSums.f
  rw [mn60]
  refine ev_pos (by omega) (ev_pos (by omega) (ev_bind (cut_ev l) (ev_bind (cut_ev m) ?_)))
  generalize cutAll l = cs at hl hs ⊢
  generalize cutAll m = ds at hl' hs' ⊢
  generalize f.extract 0 (min f.size 60) = g at hf ⊢
  refine ev_bind_now rfl (ev_pos (by simp; omega) (ev_bind_now rfl (ev_pos (by simp; omega) (ev_bind_now rfl ?_))))
  rw [List.nil_append]
  have e0 : (⟨#[]⟩ : ByteArray).size = 0 := rfl
  have e1 : (⟨#[120]⟩ : ByteArray).size = 1 := rfl
  have hall : ∀ c ∈ cs ++ ds, c.size ≤ 60 := fun c hc => by
    rcases List.mem_append.1 hc with h | h
    · exact hs c h
    · exact hs' c h
  have n1 := need_le g (cs ++ ds) (by omega) (by simp; omega) (fun c hc => by have := hall c hc; omega)
  have a1 : need g (cs ++ ds) = g.size + (cat (cs ++ ds)).length + 2 * ((cs ++ ds).length + 1) := rfl
  have a2 : need g cs = g.size + (cat cs).length + 2 * (cs.length + 1) := rfl
  have a3 : need (⟨#[]⟩ : ByteArray) ds = (⟨#[]⟩ : ByteArray).size + (cat ds).length + 2 * (ds.length + 1) := rfl
  have a4 : need (g ++ (⟨#[120]⟩ : ByteArray)) (cs ++ ds) = (g ++ (⟨#[120]⟩ : ByteArray)).size + (cat (cs ++ ds)).length + 2 * ((cs ++ ds).length + 1) := rfl
  rw [cat_append, List.length_append, List.length_append] at a1 a4
  rw [ByteArray.size_append, e1] at a4
  rw [List.length_append] at n1
  refine ev_bind_now (size_eq _ _ (by omega)) (ev_bind_now (size_eq _ _ (by omega)) (ev_bind_now (size_eq _ _ (by omega)) (ev_pos ?_ (ev_pos (by omega) (ev_bind_now (size_eq _ _ (by omega)) (ev_pos ?_ (ev_bind_now (size_eq _ _ (by decide)) ?_)))))))
  · rw [w64 (x := (need g cs : Int) + _) (by omega) (by omega), w64 (by omega) (by omega)]
    omega
  · rw [w64 (by omega) (by omega)]
    omega
  · exact sums_rest x2 hx0 hx1 g hf (cs ++ ds) (by simp; omega) hall _ (by decide)
end Go.Proofs.Ytkhbmgnjopkeaaa.Pure
