/- What is proved here: the pure statement of SlotSides: of as many cells, behind as many bytes, in the same room, unlike ones have unlike bodies. Conditions: sizes within the form's reach. -/
import Derived.Test.YtkhbmgnjopkeaaaStmtSlotSides
import Derived.Test.YtkhbmgnjopkeaaaSpec2
set_option linter.unusedVariables false
set_option linter.unusedSimpArgs false
namespace Go.Proofs.Ytkhbmgnjopkeaaa.Pure
open Go.RowKit Go.Proofs.YtkhbmgnjopkeaaaW.PrintWords Go.Proofs.YtkhbmgnjopkeaaaW.PrintLast Go.Proofs.YtkhbmgnjopkeaaaW.PrintMore Go.Proofs.YtkhbmgnjopkeaaaEv Go.Proofs.YtkhbmgnjopkeaaaSlot Go.Proofs.Ytkhbmgnjopkeaaa.P Go.Proofs.Ytkhbmgnjopkeaaa.Spec

theorem sides_rest (x2 : Int) (h0 : 0 ≤ x2) (h255 : x2 ≤ 255) (f : ByteArray) (hf : f.size ≤ 60) (cs : List ByteArray) (n : Nat) (hn : n ≤ cs.length) (hl : cs.length ≤ 30) (hs : ∀ c ∈ cs, c.size ≤ 60) (t : Bool) (ht : t = false) :
    Ev (fun k => withylaw08_SlotSides.j0 k x2 f cs (n : Int) (body 4000 f (cs.take n)) t) true := by
  subst ht
  refine ev_step ?_
  simp only [withylaw08_SlotSides.j0]
  refine ev_neg (by decide) ?_
  by_cases hz : n = 0
  · exact ev_pos (by omega) (ev_bind fixed_ev ev_some)
  refine ev_neg (by omega) (ev_bind_now rfl (ev_pos (by omega) (ev_pos (by omega) (ev_bind_now rfl ?_))))
  rw [Int.toNat_natCast]
  have htl : (cs.take n).length = n := by rw [List.length_take]; omega
  have hts : ∀ c ∈ cs.take n, c.size ≤ 60 := fun c hc => hs c (List.mem_of_mem_take hc)
  refine ev_pos (by rw [htl]; show 0 + n < _; omega) (ev_bind_now rfl ?_)
  rw [List.nil_append]
  generalize cs.take n = ds at htl hts ⊢
  obtain ⟨a, rfl⟩ := Int.eq_ofNat_of_zero_le h0
  rw [w64 (by omega) (by omega), tmod_range a n (by omega)]
  have hi : a % n < ds.length := by rw [htl]; exact Nat.mod_lt _ (by omega)
  have hd := hts _ (List.getElem_mem hi)
  have ez : (⟨#[0]⟩ : ByteArray).size = 1 := rfl
  rw [rdOf_nat _ ds _ hi, Int.toNat_natCast]
  have hes : (ds[a % n] ++ (⟨#[0]⟩ : ByteArray)).size = ds[a % n].size + 1 := by rw [ByteArray.size_append, ez]
  have hn1 := need_le f ds (by omega) (by omega) (fun c hc => by have := hts c hc; omega)
  have hn2 := need_le f (ds.set (a % n) (ds[a % n] ++ (⟨#[0]⟩ : ByteArray))) (by omega) (by simp; omega) (fun c hc => by
    rcases List.mem_or_eq_of_mem_set hc with h | rfl
    · have := hts c h
      omega
    · omega)
  rw [List.length_set] at hn2
  refine ev_pos (by omega) (ev_pos (by omega) (ev_pos (by omega) (ev_bind (pack_ev _ _ _ (by omega)) ?_)))
  rw [show (4000 : Int) = ((4000 : Nat) : Int) from rfl, packed_ok (by omega) (by omega)]
  simp only [L_toList]
  refine ev_pos trivial (ev_neg (fun h => ?_) (ev_bind fixed_ev ev_some))
  have he := body_inj (room := 4000) (f := f) (by omega) (by omega) (by omega) (by simp) (L_inj h)
  have h1 : (ds.set (a % n) (ds[a % n] ++ (⟨#[0]⟩ : ByteArray)))[a % n]'(by simpa using hi) = ds[a % n] := by simp only [he]
  rw [List.getElem_set_self] at h1
  rw [h1] at hes
  omega
theorem SlotSides : withylaw08_SlotSides.Pure := by
  intro ⟨f, l⟩ m x2 _ _ hx
  obtain ⟨hx0, hx1⟩ := wf_u8 hx
  have mf := mn_eq (f.size : Int) 60
  have hf := fix60_size f
  have hl := cutAll_length l
  have hs := fun c hc => cutAll_size (l := l) (s := c) hc
  have hl' := cutAll_length m
  have hs' := fun c hc => cutAll_size (l := m) (s := c) hc
  refine Ev.rounds ?_
  show Ev (fun k => withylaw08_SlotSides.f k f l m x2) true
  unfold withylaw08_SlotSides.f
  rw [mn60]
  refine ev_pos (by omega) (ev_pos (by omega) (ev_bind (cut_ev l) (ev_bind (cut_ev m) ?_)))
  generalize cutAll l = cs at hl hs ⊢
  generalize cutAll m = ds at hl' hs' ⊢
  generalize f.extract 0 (min f.size 60) = g at hf ⊢
  have hm : mn (cs.length : Int) (ds.length : Int) = ((min cs.length ds.length : Nat) : Int) := by rw [mn_eq]; omega
  rw [hm, Int.toNat_natCast]
  have h1 : min cs.length ds.length ≤ cs.length := by omega
  have h2 : min cs.length ds.length ≤ ds.length := by omega
  generalize min cs.length ds.length = n at h1 h2 ⊢
  have e1 : (cs.take n).length = n := by rw [List.length_take]; omega
  have e2 : (ds.take n).length = n := by rw [List.length_take]; omega
  have n1 := need_le g (cs.take n) (by omega) (by omega) (fun c hc => by have := hs c (List.mem_of_mem_take hc); omega)
  have n2 := need_le g (ds.take n) (by omega) (by omega) (fun c hc => by have := hs' c (List.mem_of_mem_take hc); omega)
  refine ev_pos (by omega) (ev_pos (by omega) (ev_bind (pack_ev _ _ _ (by omega)) (ev_pos (by omega) (ev_bind (pack_ev _ _ _ (by omega)) ?_))))
  rw [show (4000 : Int) = ((4000 : Nat) : Int) from rfl, packed_ok (by omega) (by omega), packed_ok (by omega) (by omega)]
  refine ev_pos rfl (ev_pos rfl (ev_bind (words_ev _ _ (by omega)) (sides_rest x2 hx0 hx1 g hf cs n h1 hl hs _ ?_)))
  by_cases he : cs.take n = ds.take n
  · simp [he]
  · have hb : ¬ (body 4000 g (cs.take n)).toList = (body 4000 g (ds.take n)).toList := fun h => he (body_inj (room := 4000) (f := g) (by omega) (by omega) (by omega) (by omega) (L_inj (by simpa only [L_toList] using h)))
    simp [he, hb]
end Go.Proofs.Ytkhbmgnjopkeaaa.Pure
