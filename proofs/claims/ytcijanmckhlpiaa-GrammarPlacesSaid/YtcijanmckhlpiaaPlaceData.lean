import Derived.Test.YtcijanmckhlpiaaPlaceInts
namespace Go.Proofs.Ytcijanmckhlpiaa
open Go.RowKit Go.Proofs.YtcijanmckhlpiaaW.PrintWords Go.Proofs.YtcijanmckhlpiaaW.PrintLast Go.Proofs.YtcijanmckhlpiaaW.PrintMore Go.Proofs.Ytcijanmckhlpiaa.PGrammarPlaces
set_option linter.unusedVariables false
set_option linter.unusedSimpArgs false

/-- Headers of slices: of what is made (block, length, capacity); of what came in. -/
abbrev Hd := Nat × Nat × Nat
abbrev Oh := Option Addr × Nat × Nat
def encH (x : Hd) : Value := .slice (some ⟨x.1, 0, none⟩) x.2.1 x.2.2
def encO (x : Oh) : Value := .slice x.1 x.2.1 x.2.2
def hK : Kd Hd := Kd.scalar encH (fun _ => rfl)
def oK : Kd Oh := Kd.scalar encO (fun _ => rfl)
def tru : Nat → Prop := fun _ => True
theorem R_lit_of {α : Type} {enc : α → Value} {h1 : ∀ x, (enc x).oneCell' = true} {W : World} {g base e : Nat} {cur : Array Value} (xs : List α) (hb : W.heap[g]? = some (Obj.cells cur e (0, 0))) (hg : base ≤ g) (hc : cur = (xs.map enc).toArray) (hm : xs.length ≤ 9223372036854775807) :
    (Kd.scalar enc h1).R e W base tru (.slice (some ⟨g, 0, none⟩) xs.length xs.length) xs := by
  subst hc
  refine ⟨fun _ _ => trivial, encs enc xs, ⟨?_, .inr ⟨g, xs.length, _, rfl, hg, hb, Nat.le_refl _, by simpa [maxLen] using hm, ?_, ?_⟩⟩, Kd.reps_scalar xs⟩
  · rw [encs_length]; exact (Nat.mul_one _).symm
  · show _ = xs.length * 1
    simp
  · show List.take (xs.length * 1) _ = _
    rw [Nat.mul_one, List.take_of_length_le (by simp)]
    rfl
theorem at_sc {α : Type} {enc : α → Value} {h1 : ∀ x, (enc x).oneCell' = true} {w : World} {ad : Addr} {n : Nat} {xs : List α} (h : (Kd.scalar enc h1).C w (some ad) n xs) (i : Nat) (x : α) (hx : xs[i]? = some x) : w.cell? (ad.add i) = some (enc x) := by
  have hi := (List.getElem?_eq_some_iff.1 hx).1
  obtain ⟨ad', e', hc⟩ := h.2.2 (by have := h.1; omega)
  injection e' with e'
  subst e'
  obtain ⟨c, _, hk, hcell⟩ := hc i x hx
  have hk' : c = [enc x] := hk
  subst hk'
  have hq := hcell 0 _ rfl
  rwa [show (Kd.scalar enc h1).sz = 1 from rfl, Nat.mul_one, Nat.add_zero] at hq
/-- What the rows of mine hold: from number i on what roomyInts made of rows; ahead of it some ints. -/
structure GS (B : Nat) (hs : List Hd) (rows : List (List Int)) (i : Nat) (w' : World) : Prop where
  len : hs.length = rows.length
  inner : ∀ (j : Nat) (h : Hd) (row : List Int), hs[j]? = some h → rows[j]? = some row → h.2.1 = row.length ∧ row.length + 2 ≤ h.2.2 ∧ B ≤ h.1 ∧ h.1 < w'.heap.size ∧ (i ≤ j → IB w' h.1 (row ++ marks)) ∧ ∃ xs : List Int, xs.length = row.length ∧ IB w' h.1 xs
  nd : ∀ (j j' : Nat) (h h' : Hd), hs[j]? = some h → hs[j']? = some h' → j ≠ j' → h.1 ≠ h'.1
theorem IB.keep {W W1 : World} {b : Nat} {xs : List Int} (h : IB W b xs) (hb : W1.heap[b]? = W.heap[b]?) : IB W1 b xs := by
  obtain ⟨cur, h1, h2⟩ := h
  exact ⟨cur, hb.trans h1, h2⟩
theorem IB.take {W : World} {b : Nat} {xs ys : List Int} (h : IB W b (xs ++ ys)) : IB W b xs := by
  obtain ⟨cur, h1, h2⟩ := h
  exact ⟨cur, h1, fun j x hx => h2 j x (by rw [List.getElem?_append_left (List.getElem?_eq_some_iff.1 hx).1]; exact hx)⟩
theorem IB.set {W : World} {b : Nat} {xs : List Int} (h : IB W b xs) (k : Nat) (v : Int) : IB (W.setCell ⟨b, k, none⟩ (.int .i64 v)) b (xs.set k v) := by
  obtain ⟨cur, h1, h2⟩ := h
  refine ⟨cur.setIfInBounds k (.int .i64 v), blk_set h1 k _, fun j x hx => ?_⟩
  rw [List.getElem?_set] at hx
  rw [Array.getElem?_setIfInBounds]
  split at hx
  · rename_i e
    subst e
    split at hx
    · rename_i hk
      injection hx with hx
      subst hx
      rw [if_pos rfl]
      have := h2 k _ (List.getElem?_eq_getElem hk)
      have hlt := (Array.getElem?_eq_some_iff.1 this).1
      rw [if_pos hlt]
    · cases hx
  · rename_i e
    rw [if_neg e]
    exact h2 j x hx
theorem IB.ne {W : World} {b g t : Nat} {xs : List Int} {cs : Array Value} (h : IB W b xs) (hg : W.heap[g]? = some (Obj.cells cs t (0, 0))) (ht : t ≠ 3) : b ≠ g := by
  obtain ⟨cur, h1, _⟩ := h
  exact blk_ne h1 hg (fun e => ht e.symm)
theorem GS.step {B : Nat} {hs : List Hd} {rows : List (List Int)} {i : Nat} {W W1 : World} (h : GS B hs rows i W) (hz : W.heap.size ≤ W1.heap.size) (hk : ∀ b xs, b < W.heap.size → IB W b xs → W1.heap[b]? = W.heap[b]?) : GS B hs rows i W1 := by
  refine ⟨h.len, fun j hd row hj hr => ?_, h.nd⟩
  obtain ⟨h1, h2, h3, h4, h5, xs, h6, h7⟩ := h.inner j hd row hj hr
  exact ⟨h1, h2, h3, by omega, fun hi => (h5 hi).keep (hk _ _ h4 (h5 hi)), xs, h6, h7.keep (hk _ _ h4 h7)⟩
theorem GS.below {B : Nat} {hs : List Hd} {rows : List (List Int)} {i : Nat} {W W1 : World} (h : GS B hs rows i W) (hb : Below W.heap.size W W1) : GS B hs rows i W1 := h.step hb.size (fun b _ hlt _ => hb.block b hlt)
theorem GS.grown {B : Nat} {hs : List Hd} {rows : List (List Int)} {i : Nat} {W W1 : World} {r : Option Nat} (h : GS B hs rows i W) (hg : W.grownBy W1 r) (hty : ∀ k, r = some k → ∃ cells, W.heap[k]? = some (Obj.cells cells 33 (0, 0))) : GS B hs rows i W1 :=
  h.step hg.size (fun b xs hlt hI => hg.block b hlt (fun e => by
    obtain ⟨cells, hc⟩ := hty b e.symm
    exact hI.ne hc (by decide) rfl))
theorem GS.far {B : Nat} {hs : List Hd} {rows : List (List Int)} {i : Nat} {W : World} {g t : Nat} {cs : Array Value} (h : GS B hs rows i W) (hg : W.heap[g]? = some (Obj.cells cs t (0, 0))) (ht : t ≠ 3) (j : Nat) (u : Value) : GS B hs rows i (W.setCell ⟨g, j, none⟩ u) :=
  h.step (by simp [World.setCell]) (fun b xs hlt hI => Below.heap_setCell W ⟨g, j, none⟩ u b (hI.ne hg ht))
/-- One row more, made since. -/
theorem GS.snoc {B : Nat} {hs : List Hd} {rows : List (List Int)} {W W1 : World} (h : GS B hs rows 0 W) (hb : Below W.heap.size W W1) {b cap : Nat} {row : List Int} (h1 : row.length + 2 ≤ cap) (h2 : W.heap.size ≤ b) (hB : B ≤ W.heap.size) (h3 : b < W1.heap.size) (h4 : IB W1 b (row ++ marks)) :
    GS B (hs ++ [(b, row.length, cap)]) (rows ++ [row]) 0 W1 := by
  have hW := h.below hb
  refine ⟨by simp [h.len], fun j hd r hj hr => ?_, fun j j' hd hd' hj hj' hne => ?_⟩
  · rcases Nat.lt_or_ge j hs.length with hlt | hge
    · rw [List.getElem?_append_left hlt] at hj
      rw [List.getElem?_append_left (by have := h.len; omega)] at hr
      exact hW.inner j hd r hj hr
    · have hjl : j = hs.length := by
        have := (List.getElem?_eq_some_iff.1 hj).1
        simp at this; omega
      subst hjl
      rw [List.getElem?_append_right (Nat.le_refl _), Nat.sub_self] at hj
      rw [h.len, List.getElem?_append_right (Nat.le_refl _), Nat.sub_self] at hr
      injection hj with hj
      injection hr with hr
      subst hj
      subst hr
      exact ⟨rfl, h1, by simp only; omega, h3, fun _ => h4, row, rfl, h4.take⟩
  · have key : ∀ (j : Nat) (hd : Hd), (hs ++ [((b, row.length, cap) : Hd)])[j]? = some hd → (j < hs.length ∧ hs[j]? = some hd ∧ hd.1 < W.heap.size) ∨ (j = hs.length ∧ hd.1 = b) := by
      intro j hd hj
      rcases Nat.lt_or_ge j hs.length with hlt | hge
      · rw [List.getElem?_append_left hlt] at hj
        have hr : rows[j]? = some (rows[j]'(by have := h.len; omega)) := List.getElem?_eq_getElem _
        exact .inl ⟨hlt, hj, (h.inner j hd _ hj hr).2.2.2.1⟩
      · have hjl : j = hs.length := by
          have := (List.getElem?_eq_some_iff.1 hj).1
          simp at this; omega
        subst hjl
        rw [List.getElem?_append_right (Nat.le_refl _), Nat.sub_self] at hj
        injection hj with hj
        subst hj
        exact .inr ⟨rfl, rfl⟩
    rcases key j hd hj with ⟨a1, a2, a3⟩ | ⟨a1, a2⟩ <;> rcases key j' hd' hj' with ⟨b1, b2, b3⟩ | ⟨b1, b2⟩
    · exact h.nd j j' hd hd' a2 b2 hne
    · omega
    · omega
    · omega
theorem GS.nil (B : Nat) (W : World) : GS B [] [] 0 W := ⟨rfl, fun j h r hj => by simp at hj, fun j j' h h' hj => by simp at hj⟩
/-- Row i is done: it is written over from now on. -/
theorem GS.next {B : Nat} {hs : List Hd} {rows : List (List Int)} {i : Nat} {W : World} (h : GS B hs rows i W) : GS B hs rows (i + 1) W :=
  ⟨h.len, fun j hd row hj hr => by
    obtain ⟨h1, h2, h3, h4, h5, h6⟩ := h.inner j hd row hj hr
    exact ⟨h1, h2, h3, h4, fun hi => h5 (by omega), h6⟩, h.nd⟩
/-- A store into row i. -/
theorem GS.set {B : Nat} {hs : List Hd} {rows : List (List Int)} {i : Nat} {W : World} (h : GS B hs rows (i + 1) W) {hd : Hd} (hi : hs[i]? = some hd) (k : Nat) (v : Int) : GS B hs rows (i + 1) (W.setCell ⟨hd.1, k, none⟩ (.int .i64 v)) := by
  refine ⟨h.len, fun j hd' row hj hr => ?_, h.nd⟩
  obtain ⟨h1, h2, h3, h4, h5, xs, h6, h7⟩ := h.inner j hd' row hj hr
  by_cases e : j = i
  · subst e
    rw [hi] at hj
    injection hj with hj
    subst hj
    exact ⟨h1, h2, h3, by simpa [World.setCell] using h4, fun hh => by omega, xs.set k v, by simpa using h6, h7.set k v⟩
  · have hne : hd'.1 ≠ hd.1 := h.nd j i hd' hd hj hi e
    have hk : (W.setCell ⟨hd.1, k, none⟩ (.int .i64 v)).heap[hd'.1]? = W.heap[hd'.1]? := Below.heap_setCell W ⟨hd.1, k, none⟩ _ _ hne
    exact ⟨h1, h2, h3, by simpa [World.setCell] using h4, fun hh => (h5 hh).keep hk, xs, h6, h7.keep hk⟩
/-- What the rows hold now. -/
theorem GS.now {B : Nat} {hs : List Hd} {rows : List (List Int)} {i : Nat} {W : World} (h : GS B hs rows i W) : ∃ cur : List (List Int), cur.length = rows.length ∧ ∀ (j : Nat) (hd : Hd) (xs : List Int), hs[j]? = some hd → cur[j]? = some xs → hd.2.1 = xs.length ∧ xs.length + 2 ≤ hd.2.2 ∧ IB W hd.1 xs := by
  have : ∀ j, j < rows.length → ∃ xs : List Int, ∀ hd, hs[j]? = some hd → hd.2.1 = xs.length ∧ xs.length + 2 ≤ hd.2.2 ∧ IB W hd.1 xs := by
    intro j hj
    have hj' : j < hs.length := by have := h.len; omega
    obtain ⟨h1, h2, h3, h4, h5, xs, h6, h7⟩ := h.inner j _ _ (List.getElem?_eq_getElem hj') (List.getElem?_eq_getElem hj)
    refine ⟨xs, fun hd hhd => ?_⟩
    rw [List.getElem?_eq_getElem hj'] at hhd
    injection hhd with hhd
    subst hhd
    exact ⟨by omega, by omega, h7⟩
  clear h
  generalize rows.length = n at *
  induction n with
  | zero => exact ⟨[], rfl, fun j hd xs _ hx => by simp at hx⟩
  | succ n ih =>
    obtain ⟨cur, h1, h2⟩ := ih (fun j hj => this j (by omega))
    obtain ⟨ys, hys⟩ := this n (by omega)
    refine ⟨cur ++ [ys], by simp [h1], fun j hd xs hj hx => ?_⟩
    rcases Nat.lt_or_ge j cur.length with hlt | hge
    · rw [List.getElem?_append_left hlt] at hx
      exact h2 j hd xs hj hx
    · have hjl : j = n := by
        have := (List.getElem?_eq_some_iff.1 hx).1
        simp at this; omega
      subst hjl
      rw [List.getElem?_append_right hge, h1, Nat.sub_self] at hx
      injection hx with hx
      subst hx
      exact hys hd hj
/-- A row of headers reads as the rows that they lead to. -/
theorem rows_C {W : World} {A : Option Addr} {n : Nat} {hs : List Hd} {cur : List (List Int)} (h : hK.C W A n hs) (hl : hs.length = cur.length) (hi : ∀ (j : Nat) (hd : Hd) (xs : List Int), hs[j]? = some hd → cur[j]? = some xs → hd.2.1 = xs.length ∧ xs.length + 2 ≤ hd.2.2 ∧ IB W hd.1 xs) (hb : ∀ x ∈ cur, x.length ≤ 9223372036854775807) :
    (Kd.slice 3 kI).C W A n cur := by
  obtain ⟨h1, h2, h3⟩ := h
  refine ⟨by omega, h2, fun hn => ?_⟩
  obtain ⟨ad, rfl, hc⟩ := h3 hn
  refine ⟨ad, rfl, fun j xs hx => ?_⟩
  have hjl : j < hs.length := by have := (List.getElem?_eq_some_iff.1 hx).1; omega
  obtain ⟨c, h4, hk, hcell⟩ := hc j _ (List.getElem?_eq_getElem hjl)
  obtain ⟨g1, g2, g3⟩ := hi j _ xs (List.getElem?_eq_getElem hjl) hx
  refine ⟨c, h4, ⟨some ⟨hs[j].1, 0, none⟩, hs[j].2.2, ?_, by omega, ?_⟩, hcell⟩
  · have hk' : c = [encH hs[j]] := hk
    rw [hk', ← g1]; rfl
  · have := g3.C xs.length (Nat.le_refl _) (hb _ (List.mem_of_getElem? hx))
    rwa [List.take_length] at this
end Go.Proofs.Ytcijanmckhlpiaa
