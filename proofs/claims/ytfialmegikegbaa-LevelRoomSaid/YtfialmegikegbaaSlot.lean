/- What is proved here: the plain law of a body of cells: its directory tells where each cell stands; what is packed is cut again into just its cells. No program in sight. Conditions: bodies of at most 65535 bytes. -/
import Derived.Test.YtfialmegikegbaaEv
set_option linter.unusedVariables false
set_option linter.unusedSimpArgs false
namespace Go.Proofs.YtfialmegikegbaaSlot
open Go.RowKit Go.Proofs.YtfialmegikegbaaW.PrintWords Go.Proofs.YtfialmegikegbaaW.PrintMore Go.Proofs.YtfialmegikegbaaEv

/-- A place of the directory: two bytes, the lower one ahead. -/
def place (n : Nat) : List UInt8 := [UInt8.ofNat n, UInt8.ofNat (n / 256)]
/-- The cells, one behind the other. -/
def cat (cs : List ByteArray) : List UInt8 := (cs.map L).flatten
/-- The directory of cells from the place p on: the last place stands first. -/
def dir : Nat → List ByteArray → List UInt8
  | p, [] => place p
  | p, c :: cs => dir (p + c.size) cs ++ place p
def need (f : ByteArray) (cs : List ByteArray) : Nat := f.size + (cat cs).length + 2 * (cs.length + 1)
def body (room : Nat) (f : ByteArray) (cs : List ByteArray) : ByteArray := ⟨(L f ++ cat cs ++ List.replicate (room - need f cs) 0 ++ dir f.size cs).toArray⟩
def packed (room : Int) (f : ByteArray) (cs : List ByteArray) : ByteArray × Int :=
  if room < 0 ∨ room > 65535 then (⟨#[]⟩, 4) else if (need f cs : Int) > room then (⟨#[]⟩, 8) else (body room.toNat f cs, 0)

theorem cat_nil : cat [] = [] := rfl
theorem cat_cons (c : ByteArray) (cs : List ByteArray) : cat (c :: cs) = L c ++ cat cs := by simp [cat]
theorem cat_append (a b : List ByteArray) : cat (a ++ b) = cat a ++ cat b := by simp [cat]
theorem cat_length_le (n : Nat) : ∀ (cs : List ByteArray), (∀ c ∈ cs, c.size ≤ n) → (cat cs).length ≤ cs.length * n
  | [], _ => by simp [cat]
  | c :: cs, h => by
    have h1 := cat_length_le n cs (fun x hx => h x (List.mem_cons_of_mem _ hx))
    have h2 := h c List.mem_cons_self
    rw [cat_cons, List.length_append, L_length, List.length_cons, Nat.add_mul]
    omega
theorem mem_le_cat {c : ByteArray} : ∀ {cs : List ByteArray}, c ∈ cs → c.size ≤ (cat cs).length
  | x :: cs, h => by
    rw [cat_cons, List.length_append, L_length]
    rcases List.mem_cons.1 h with rfl | h
    · omega
    · have := mem_le_cat h
      omega
theorem dir_length : ∀ (p : Nat) (cs : List ByteArray), (dir p cs).length = 2 * (cs.length + 1)
  | p, [] => rfl
  | p, c :: cs => by
    simp only [dir, List.length_append, dir_length _ cs, place, List.length_cons, List.length_nil]
    omega
theorem L_mk (l : List UInt8) : L ⟨l.toArray⟩ = l := by simp
theorem size_mk (l : List UInt8) : (⟨l.toArray⟩ : ByteArray).size = l.length := by rw [← L_length, L_mk]
theorem body_L (room : Nat) (f : ByteArray) (cs : List ByteArray) : L (body room f cs) = L f ++ cat cs ++ List.replicate (room - need f cs) 0 ++ dir f.size cs := L_mk _
theorem body_size {room : Nat} {f : ByteArray} {cs : List ByteArray} (h : need f cs ≤ room) : (body room f cs).size = room := by
  have hn : need f cs = f.size + (cat cs).length + 2 * (cs.length + 1) := rfl
  have h1 := L_length f
  have h2 := dir_length f.size cs
  rw [← L_length, body_L]
  simp only [List.length_append, List.length_replicate]
  omega

/-- The i-th place, told from the end of the bytes. -/
def ent (l : List UInt8) (i : Nat) : Nat := (l.getD (l.length - 2 * (i + 1)) 0).toNat + 256 * (l.getD (l.length - 2 * (i + 1) + 1) 0).toNat
theorem ent_lt (l : List UInt8) (i : Nat) : ent l i < 65536 := by
  unfold ent
  have h1 := (l.getD (l.length - 2 * (i + 1)) 0).toNat_lt
  have h2 := (l.getD (l.length - 2 * (i + 1) + 1) 0).toNat_lt
  omega
theorem ent_last (l : List UInt8) (n : Nat) (h : n < 65536) : ent (l ++ place n) 0 = n := by
  unfold ent place
  have e1 : (l ++ [UInt8.ofNat n, UInt8.ofNat (n / 256)]).length - 2 * (0 + 1) = l.length := by simp
  rw [e1]
  simp [List.getD_eq_getElem?_getD, List.getElem?_append_right]
  omega
theorem ent_succ (l : List UInt8) (n i : Nat) (h : 2 * (i + 1) ≤ l.length) : ent (l ++ place n) (i + 1) = ent l i := by
  unfold ent
  have e1 : (l ++ place n).length - 2 * (i + 1 + 1) = l.length - 2 * (i + 1) := by simp [place]; omega
  rw [e1]
  simp only [List.getD_eq_getElem?_getD]
  rw [List.getElem?_append_left (by omega), List.getElem?_append_left (by omega)]
/-- Where the i-th cell stands. -/
def pos : Nat → List ByteArray → Nat → Nat
  | p, _, 0 => p
  | p, [], _ + 1 => p
  | p, c :: cs, i + 1 => pos (p + c.size) cs i
theorem pos_zero (p : Nat) (cs : List ByteArray) : pos p cs 0 = p := by cases cs <;> rfl
theorem ent_dir : ∀ (cs : List ByteArray) (p i : Nat) (X : List UInt8), i ≤ cs.length → p + (cat cs).length < 65536 → ent (X ++ dir p cs) i = pos p cs i
  | [], p, i, X, h, hp => by
    obtain rfl : i = 0 := by simpa using h
    rw [dir, ent_last _ _ (by omega), pos_zero]
  | c :: cs, p, i, X, h, hp => by
    rw [cat_cons, List.length_append, L_length] at hp
    rw [dir, ← List.append_assoc]
    cases i with
    | zero => rw [ent_last _ _ (by omega), pos_zero]
    | succ i =>
      rw [ent_succ _ _ _ (by rw [List.length_append, dir_length]; simp at h; omega), ent_dir cs (p + c.size) i X (by simpa using h) (by omega)]
      rfl

/-- The cells between a body's places: d of them, from the i-th on. -/
def cuts (b : ByteArray) : Nat → Nat → List ByteArray → Option (List ByteArray)
  | 0, _, acc => some acc
  | d + 1, i, acc => if ent (L b) i > ent (L b) (i + 1) then none else if ent (L b) (i + 1) > b.size then none else cuts b d (i + 1) (acc ++ [b.extract (ent (L b) i) (ent (L b) (i + 1))])
def unpacked (b : ByteArray) (f m : Int) : List ByteArray × Int :=
  if f < 0 ∨ m < 0 ∨ (b.size : Int) > 65535 then ([], 4) else if f > (b.size : Int) ∨ m > (b.size : Int) / 2 - 1 then ([], 3) else
    match cuts b m.toNat 0 [] with
    | none => ([], 3)
    | some cs => if packed (b.size : Int) (b.extract 0 f.toNat) cs = (b, 0) then (cs, 0) else ([], 3)

theorem cuts_length (b : ByteArray) : ∀ (d i : Nat) (acc cs : List ByteArray), cuts b d i acc = some cs → cs.length = acc.length + d
  | 0, i, acc, cs, h => by
    injection h with h
    rw [h]
    rfl
  | d + 1, i, acc, cs, h => by
    unfold cuts at h
    split at h
    · cases h
    · split at h
      · cases h
      · rw [cuts_length b d _ _ _ h]
        simp
        omega
theorem cuts_size (b : ByteArray) : ∀ (d i : Nat) (acc cs : List ByteArray), (∀ c ∈ acc, c.size ≤ b.size) → cuts b d i acc = some cs → ∀ c ∈ cs, c.size ≤ b.size
  | 0, i, acc, cs, ha, h => by
    injection h with h
    rw [← h]
    exact ha
  | d + 1, i, acc, cs, ha, h => by
    unfold cuts at h
    split at h
    · cases h
    · split at h
      · cases h
      · refine cuts_size b d _ _ _ ?_ h
        intro c hc
        rcases List.mem_append.1 hc with hc | hc
        · exact ha c hc
        · obtain rfl := List.mem_singleton.1 hc
          rw [size_extract]
          omega
/-- What stands between the places that cells tell are the cells. -/
theorem cuts_of (b : ByteArray) : ∀ (cs : List ByteArray) (i : Nat) (acc : List ByteArray) (A R : List UInt8), L b = A ++ cat cs ++ R → (∀ j, j ≤ cs.length → ent (L b) (i + j) = pos A.length cs j) → cuts b cs.length i acc = some (acc ++ cs)
  | [], i, acc, A, R, h, hj => by
    rw [List.append_nil]
    rfl
  | c :: cs, i, acc, A, R, h, hj => by
    have h0 : ent (L b) i = A.length := by rw [← Nat.add_zero i, hj 0 (Nat.zero_le _), pos_zero]
    have h1 : ent (L b) (i + 1) = A.length + c.size := by rw [hj 1 (by simp)]; exact pos_zero _ cs
    have hs : b.size = A.length + (c.size + (cat cs).length) + R.length := by
      rw [← L_length b, h, cat_cons]
      simp only [List.length_append, L_length]
    have hc : b.extract (ent (L b) i) (ent (L b) (i + 1)) = c := by
      refine L_inj ?_
      rw [L_extract, h0, h1, h, cat_cons]
      have := L_length c
      rw [show A ++ (L c ++ cat cs) ++ R = A ++ (L c ++ (cat cs ++ R)) by simp only [List.append_assoc], List.drop_left, show A.length + c.size - A.length = (L c).length by omega, List.take_left]
    rw [List.length_cons]
    unfold cuts
    rw [if_neg (by omega), if_neg (by omega), hc, cuts_of b cs (i + 1) (acc ++ [c]) (A ++ L c) R (by rw [h, cat_cons]; simp only [List.append_assoc]) (fun j hl => by
      rw [show i + 1 + j = i + (j + 1) by omega, hj (j + 1) (by simpa using hl), List.length_append, L_length]
      rfl), List.append_assoc]
    rfl
theorem cuts_body {room : Nat} {f : ByteArray} {cs : List ByteArray} (h : need f cs ≤ room) (hr : room ≤ 65535) : cuts (body room f cs) cs.length 0 [] = some cs := by
  have hn : need f cs = f.size + (cat cs).length + 2 * (cs.length + 1) := rfl
  have := cuts_of (body room f cs) cs 0 [] (L f) (List.replicate (room - need f cs) 0 ++ dir f.size cs) (by rw [body_L]; simp only [List.append_assoc]) (fun j hj => by
    rw [Nat.zero_add, body_L, ent_dir cs f.size j _ hj (by omega), L_length])
  rw [this, List.nil_append]
theorem body_fixed {room : Nat} {f : ByteArray} {cs : List ByteArray} : (body room f cs).extract 0 f.size = f := by
  refine L_inj ?_
  rw [L_to, body_L, ← L_length f]
  simp only [List.append_assoc]
  rw [List.take_left]
theorem unpacked_body {room : Nat} {f : ByteArray} {cs : List ByteArray} (h : need f cs ≤ room) (hr : room ≤ 65535) : unpacked (body room f cs) (f.size : Int) (cs.length : Int) = (cs, 0) := by
  have hn : need f cs = f.size + (cat cs).length + 2 * (cs.length + 1) := rfl
  have hs := body_size h
  unfold unpacked
  rw [hs, if_neg (by omega), if_neg (by omega), Int.toNat_natCast, Int.toNat_natCast, cuts_body h hr, body_fixed]
  show (if _ then _ else _) = _
  rw [if_pos]
  unfold packed
  rw [if_neg (by omega), if_neg (by omega), Int.toNat_natCast]
/-- Unlike cells, as many, have unlike bodies. -/
theorem body_inj {room : Nat} {f : ByteArray} {cs ds : List ByteArray} (h : need f cs ≤ room) (h' : need f ds ≤ room) (hr : room ≤ 65535) (hl : cs.length = ds.length) (he : body room f cs = body room f ds) : cs = ds := by
  have h1 := cuts_body h hr
  have h2 := cuts_body h' hr
  rw [he, hl, h2] at h1
  injection h1 with h1
  exact h1.symm
end Go.Proofs.YtfialmegikegbaaSlot
