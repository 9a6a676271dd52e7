import Derived.Test.YtcijanmckhlpiaaDoorSpansPlain
namespace Go.Proofs.YtcijanmckhlpiaaDoor
open Go.RowKit Go.Proofs.YtcijanmckhlpiaaDoorW.PrintWords Go.Proofs.YtcijanmckhlpiaaDoorW.PrintLast Go.Proofs.YtcijanmckhlpiaaDoorW.PrintMore Go.Proofs.YtcijanmckhlpiaaDoor.PPaintLines
set_option linter.unusedVariables false
set_option linter.unusedSimpArgs false
namespace Paint
theorem str_eq {a b : ByteArray} : (a.toList == b.toList) = true ↔ a = b := by
  rw [beq_iff_eq]
  constructor
  · intro e
    rw [ByteArray.toList_eq, ByteArray.toList_eq] at e
    exact WideShapes.bytes_inj e
  · intro e; rw [e]
theorem ilt_or_ge (a b : Int) : a < b ∨ b ≤ a := by omega
/-! ### between two places the class does not turn -/
theorem pathS_same {t : List S100} {a b : Int} (h : ∀ x ∈ t, (x.f3 ≤ a ↔ x.f3 ≤ b) ∧ (a < x.f4 ↔ b < x.f4)) : ∀ d i e, pathS t a d i e = pathS t b d i e
  | 0, _, _ => rfl
  | d + 1, i, e => by
    unfold pathS
    by_cases hi : i < e ∧ i < t.length
    · rw [dif_pos hi, dif_pos hi, pathS_same h d, pathS_same h d]
      have h1 := h _ (List.getElem_mem hi.2)
      by_cases hc : (t[i]'hi.2).f3 ≤ a ∧ a < (t[i]'hi.2).f4
      · rw [if_pos hc, if_pos ⟨h1.1.1 hc.1, h1.2.1 hc.2⟩]
      · rw [if_neg hc, if_neg (fun h2 => hc ⟨h1.1.2 h2.1, h1.2.2 h2.2⟩)]
    · rw [dif_neg hi, dif_neg hi]
theorem classAll_same {l : List PD} {t : List S100} {a b : Int} (ha : 0 ≤ a) (hb : 0 ≤ b) (h : ∀ p ∈ plc t, (p ≤ a ↔ p ≤ b)) : classAll l t a = classAll l t b := by
  unfold classAll
  rw [if_neg (by omega), if_neg (by omega)]
  have : pathAll t a = pathAll t b := by
    unfold pathAll
    rw [pathS_same (fun x hx => ⟨h _ (by unfold plc; rw [List.mem_flatMap]; exact ⟨x, hx, by simp⟩), by
      have := h x.f4 (by unfold plc; rw [List.mem_flatMap]; exact ⟨x, hx, by simp⟩)
      omega⟩)]
  rw [this]
theorem pathS_none {t : List S100} {a : Int} (h : ∀ x ∈ t, x.f4 ≤ a) : ∀ d i e, pathS t a d i e = []
  | 0, _, _ => rfl
  | d + 1, i, e => by
    unfold pathS
    by_cases hi : i < e ∧ i < t.length
    · rw [dif_pos hi, if_neg (fun hc => by have := h _ (List.getElem_mem hi.2); omega)]
      exact pathS_none h d _ _
    · rw [dif_neg hi]
theorem classAll_out {l : List PD} {t : List S100} {a : Int} (h : ∀ p ∈ plc t, p ≤ a) : classAll l t a = ⟨#[]⟩ := by
  unfold classAll
  split
  · rfl
  · have : pathAll t a = [] := by
      unfold pathAll
      rw [pathS_none (fun x hx => h _ (by unfold plc; rw [List.mem_flatMap]; exact ⟨x, hx, by simp⟩))]
      split <;> rfl
    rw [this]; rfl
theorem GoodP.mono {t : List S100} {P : List Int} (h : GoodP t P) {i j : Nat} {p q : Int} (hi : P[i]? = some p) (hj : P[j]? = some q) (hij : i < j) : p < q := by
  obtain ⟨h1, rfl⟩ := List.getElem?_eq_some_iff.1 hi
  obtain ⟨h2, rfl⟩ := List.getElem?_eq_some_iff.1 hj
  exact List.pairwise_iff_getElem.1 h.up i j h1 h2 hij
theorem GoodP.nonneg {t : List S100} {P : List Int} (h : GoodP t P) {i : Nat} {p : Int} (hi : P[i]? = some p) : 0 ≤ p := by
  rcases (h.mem p).1 (List.mem_of_getElem? hi) with e | e <;> omega
theorem GoodP.between {t : List S100} {P : List Int} (h : GoodP t P) {i : Nat} {p q : Int} (hi : P[i]? = some p) (hj : P[i + 1]? = some q) {a : Int} (h1 : p ≤ a) (h2 : a < q) (l : List PD) : classAll l t a = classAll l t p := by
  have h0 := h.nonneg hi
  refine classAll_same (by omega) h0 (fun r hr => ⟨fun hra => ?_, fun hrp => by omega⟩)
  rcases ilt_or_ge p r with c | c
  · exfalso
    obtain ⟨k, hk⟩ := List.mem_iff_getElem?.1 ((h.mem r).2 (.inr ⟨by omega, hr⟩))
    rcases Nat.lt_trichotomy k (i + 1) with d | d | d
    · rcases Nat.lt_or_ge k i with d' | d'
      · have := h.mono hk hi d'; omega
      · obtain rfl : k = i := by omega
        rw [hk] at hi; cases hi; omega
    · subst d; rw [hk] at hj; cases hj; omega
    · have := h.mono hj hk d; omega
  · exact c
theorem GoodP.last {t : List S100} {P : List Int} (h : GoodP t P) {i : Nat} {p : Int} (hi : P[i]? = some p) (hl : ¬ i + 1 < P.length) (l : List PD) : classAll l t p = ⟨#[]⟩ := by
  have h0 := h.nonneg hi
  have hil := (List.getElem?_eq_some_iff.1 hi).1
  refine classAll_out (fun r hr => ?_)
  rcases ilt_or_ge p r with c | c
  · exfalso
    obtain ⟨k, hk⟩ := List.mem_iff_getElem?.1 ((h.mem r).2 (.inr ⟨by omega, hr⟩))
    have hkl := (List.getElem?_eq_some_iff.1 hk).1
    rcases Nat.lt_or_ge k i with d | d
    · have := h.mono hk hi d; omega
    · obtain rfl : k = i := by omega
      rw [hk] at hi; cases hi; omega
  · exact c
/-! ### what the spans are -/
def emp : ByteArray := ⟨#[]⟩
structure Seg (cls : Int → ByteArray) (P : List Int) (i : Nat) (x : S61) (a b : Nat) : Prop where
  ab : a < b
  bi : b ≤ i
  from_ : P[a]? = some x.f0
  to_ : P[b]? = some x.f1
  ne : x.f2 ≠ emp
  all : ∀ j p, a ≤ j → j < b → P[j]? = some p → cls p = x.f2
  before : 0 < a → ∀ p, P[a - 1]? = some p → cls p ≠ x.f2
  behind : b < i → ∀ p, P[b]? = some p → cls p ≠ x.f2
structure TI (cls : Int → ByteArray) (P : List Int) (i : Nat) (out : List S61) : Prop where
  seg : ∀ k x, out[k]? = some x → ∃ a b, Seg cls P i x a b ∧ (k + 1 < out.length → b < i)
  ord : ∀ k x y, out[k]? = some x → out[k + 1]? = some y → x.f1 ≤ y.f0 ∧ (x.f1 = y.f0 → x.f2 ≠ y.f2)
  last : ∀ p q, 0 < i → P[i - 1]? = some p → P[i]? = some q → cls p ≠ emp → ∃ x, out[out.length - 1]? = some x ∧ 0 < out.length ∧ x.f1 = q ∧ x.f2 = cls p
theorem TI.start (cls : Int → ByteArray) (P : List Int) : TI cls P 0 [] := ⟨fun k x h => by simp at h, fun k x y h => by simp at h, fun p q h => by omega⟩
theorem rd72_get {out : List S61} {k : Nat} {x : S61} (h : out[k]? = some x) : rd_T61 out (k : Int) = x := by
  unfold rd_T61
  rw [Int.toNat_natCast, List.getD_eq_getElem?_getD, h]; rfl
theorem stepS_cases (c : ByteArray) (out : List S61) (a b : Int) : (c = emp ∧ stepS c out a b = out) ∨
    (c ≠ emp ∧ ∃ x, out[out.length - 1]? = some x ∧ 0 < out.length ∧ x.f1 = a ∧ x.f2 = c ∧ stepS c out a b = out.set (out.length - 1) { x with f1 := b }) ∨
    (c ≠ emp ∧ (∀ x, out[out.length - 1]? = some x → ¬ (x.f1 = a ∧ x.f2 = c)) ∧ stepS c out a b = out ++ [⟨a, b, c⟩]) := by
  by_cases hc : c = emp
  · have hc1 : (c.toList == (⟨#[]⟩ : ByteArray).toList) = true := str_eq.2 hc
    exact .inl ⟨hc, by unfold stepS; rw [if_pos hc1]⟩
  · refine .inr ?_
    have hc1 : ¬ (c.toList == (⟨#[]⟩ : ByteArray).toList) = true := fun h => hc (str_eq.1 h)
    by_cases ho : 0 < out.length
    · have hx : out[out.length - 1]? = some out[out.length - 1] := List.getElem?_eq_getElem (by omega)
      generalize out[out.length - 1] = x at hx
      have hr : rd_T61 out ((out.length : Int) - 1) = x := by rw [show ((out.length : Int) - 1) = ((out.length - 1 : Nat) : Int) by omega]; exact rd72_get hx
      by_cases h2 : x.f1 = a ∧ x.f2 = c
      · exact .inl ⟨hc, x, hx, ho, h2.1, h2.2, by unfold stepS; rw [if_neg hc1, hr, if_pos ⟨ho, h2.1, str_eq.2 h2.2⟩]⟩
      · refine .inr ⟨hc, fun y hy => ?_, by unfold stepS; rw [if_neg hc1, hr, if_neg (fun h => h2 ⟨h.2.1, str_eq.1 h.2.2⟩)]⟩
        rw [hx] at hy; cases hy; exact h2
    · refine .inr ⟨hc, fun y hy => ?_, by unfold stepS; rw [if_neg hc1, if_neg (fun h => ho h.1)]⟩
      rw [List.getElem?_eq_none (by omega)] at hy; cases hy
theorem TI.step {t : List S100} {P : List Int} (hg : GoodP t P) {cls : Int → ByteArray} {i : Nat} {out : List S61} (h : TI cls P i out) {p q : Int} (hp : P[i]? = some p) (hq : P[i + 1]? = some q) : TI cls P (i + 1) (stepS (cls p) out p q) := by
  have hlt := hg.mono hp hq (by omega)
  -- a segment that stays
  have keep : ∀ x a b, Seg cls P i x a b → (b = i → cls p ≠ x.f2) → Seg cls P (i + 1) x a b := fun x a b hs hb => ⟨hs.ab, by have := hs.bi; omega, hs.from_, hs.to_, hs.ne, hs.all, hs.before, fun h1 r hr => by
    rcases Nat.lt_or_ge b i with c | c
    · exact hs.behind c r hr
    · obtain rfl : b = i := by have := hs.bi; omega
      rw [hp] at hr; cases hr; exact hb rfl⟩
  rcases stepS_cases (cls p) out p q with ⟨hc, e⟩ | ⟨hc, x, hx, ho, h1, h2, e⟩ | ⟨hc, hno, e⟩
  · rw [e]
    refine ⟨fun k x hx => ?_, h.ord, fun p' q' _ hp' hq' hne => ?_⟩
    · obtain ⟨a, b, hs, hb⟩ := h.seg k x hx
      exact ⟨a, b, keep x a b hs (fun _ e2 => hs.ne (by rw [← e2]; exact hc)), fun h1 => by have := hb h1; omega⟩
    · rw [Nat.add_sub_cancel, hp] at hp'; cases hp'; exact absurd hc hne
  · rw [e]
    refine ⟨fun k y hy => ?_, fun k y z hy hz => ?_, fun p' q' _ hp' hq' hne => ?_⟩
    · rw [List.length_set]
      by_cases hk : k = out.length - 1
      · subst hk
        rw [List.getElem?_set_self (by omega)] at hy
        cases hy
        obtain ⟨a, b, hs, hb⟩ := h.seg _ x hx
        have hbi : b = i := by
          rcases Nat.lt_or_ge b i with c | c
          · have := hg.mono hs.to_ hp c; omega
          · have := hs.bi; omega
        subst hbi
        refine ⟨a, b + 1, ⟨by have := hs.ab; omega, Nat.le_refl _, hs.from_, hq, hs.ne, fun j r h3 h4 hr => ?_, hs.before, fun h3 => by omega⟩, fun h3 => by omega⟩
        rcases Nat.lt_or_ge j b with c | c
        · exact hs.all j r h3 c hr
        · obtain rfl : j = b := by omega
          rw [hp] at hr; cases hr; exact h2.symm
      · rw [List.getElem?_set_ne (fun e2 => hk e2.symm)] at hy
        obtain ⟨a, b, hs, hb⟩ := h.seg k y hy
        have hkl := (List.getElem?_eq_some_iff.1 hy).1
        have hb' := hb (by omega)
        exact ⟨a, b, keep y a b hs (fun e2 => by omega), fun _ => by omega⟩
    · have hkl := (List.getElem?_eq_some_iff.1 hz).1
      rw [List.length_set] at hkl
      rw [List.getElem?_set_ne (by omega)] at hy
      by_cases hk : k + 1 = out.length - 1
      · rw [hk, List.getElem?_set_self (by omega)] at hz
        cases hz
        exact h.ord k y x hy (by rw [hk]; exact hx)
      · rw [List.getElem?_set_ne (fun e2 => hk e2.symm)] at hz
        exact h.ord k y z hy hz
    · rw [Nat.add_sub_cancel, hp] at hp'; cases hp'
      rw [hq] at hq'; cases hq'
      exact ⟨{ x with f1 := q }, by rw [List.length_set, List.getElem?_set_self (by omega)], by rw [List.length_set]; exact ho, rfl, h2⟩
  · rw [e]
    have hlastno : ∀ k x, out[k]? = some x → ∀ a b, Seg cls P i x a b → (k + 1 < out.length → b < i) → b = i → cls p ≠ x.f2 := fun k x hx a b hs hb e2 e3 => by
      have hkl := (List.getElem?_eq_some_iff.1 hx).1
      have hk : k = out.length - 1 := by
        rcases Nat.lt_or_ge (k + 1) out.length with c | c
        · have := hb c; omega
        · omega
      subst hk e2
      have := hs.to_
      rw [hp] at this
      exact hno x hx ⟨by injection this with this; exact this.symm, e3.symm⟩
    refine ⟨fun k y hy => ?_, fun k y z hy hz => ?_, fun p' q' _ hp' hq' hne => ?_⟩
    · rw [List.length_append, List.length_singleton]
      rcases Nat.lt_or_ge k out.length with c | c
      · rw [List.getElem?_append_left c] at hy
        obtain ⟨a, b, hs, hb⟩ := h.seg k y hy
        exact ⟨a, b, keep y a b hs (hlastno k y hy a b hs hb), fun _ => by have := hs.bi; omega⟩
      · rw [List.getElem?_append_right c] at hy
        have hkl : k = out.length := by
          rcases Nat.lt_or_ge out.length k with d | d
          · rw [List.getElem?_eq_none (by simp; omega)] at hy; cases hy
          · omega
        subst hkl
        rw [Nat.sub_self] at hy
        cases hy
        refine ⟨i, i + 1, ⟨by omega, Nat.le_refl _, hp, hq, hc, fun j r h3 h4 hr => ?_, fun h3 r hr e2 => ?_, fun h3 => by omega⟩, fun h3 => by omega⟩
        · obtain rfl : j = i := by omega
          rw [hp] at hr; cases hr; rfl
        · obtain ⟨x, hx, ho, h4, h5⟩ := h.last r p h3 hr hp (by rw [e2]; exact hc)
          exact hno x hx ⟨h4, by rw [h5, e2]⟩
    · have hzl := (List.getElem?_eq_some_iff.1 hz).1
      rw [List.length_append, List.length_singleton] at hzl
      rw [List.getElem?_append_left (by omega)] at hy
      rcases Nat.lt_or_ge (k + 1) out.length with c | c
      · rw [List.getElem?_append_left c] at hz
        exact h.ord k y z hy hz
      · obtain hk : k + 1 = out.length := by omega
        rw [List.getElem?_append_right c, hk, Nat.sub_self] at hz
        cases hz
        obtain ⟨a, b, hs, hb⟩ := h.seg k y hy
        refine ⟨?_, fun e2 e3 => hno y (by rw [← hk, Nat.add_sub_cancel]; exact hy) ⟨e2, e3⟩⟩
        rcases Nat.lt_or_ge b i with c' | c'
        · have := hg.mono hs.to_ hp c'
          show y.f1 ≤ p
          omega
        · obtain rfl : b = i := by have := hs.bi; omega
          have := hs.to_
          rw [hp] at this
          injection this with this
          show y.f1 ≤ p
          omega
    · rw [Nat.add_sub_cancel, hp] at hp'; cases hp'
      rw [hq] at hq'; cases hq'
      exact ⟨⟨p, q, cls p⟩, by simp, by simp, rfl, rfl⟩
theorem TI.go {t : List S100} {P : List Int} (hg : GoodP t P) {cls : Int → ByteArray} : ∀ d i out, P.length - i = d → i < P.length → TI cls P i out → TI cls P (P.length - 1) (spansGo cls out (P.drop i)) := by
  intro d
  induction d with
  | zero => intro i out h1 h2; omega
  | succ d ih =>
    intro i out h1 h2 h
    by_cases hn : i + 1 < P.length
    · rw [spansGo_step cls out P i hn]
      exact ih (i + 1) _ (by omega) hn (h.step hg (List.getElem?_eq_getElem h2) (List.getElem?_eq_getElem hn))
    · rw [spansGo_end cls out P i hn, show P.length - 1 = i by omega]
      exact h
/-- What a span is. -/
structure Tile (l : List PD) (t : List S100) (x : S61) : Prop where
  lo : 0 ≤ x.f0
  lt : x.f0 < x.f1
  ne : x.f2 ≠ emp
  all : ∀ a, x.f0 ≤ a → a < x.f1 → classAll l t a = x.f2
  behind : classAll l t x.f1 ≠ x.f2
  before : 0 < x.f0 → classAll l t (x.f0 - 1) ≠ x.f2
  hi : x.f1 ∈ plc t
theorem segs_all {t : List S100} {P : List Int} (hg : GoodP t P) {l : List PD} {x : S61} {b : Nat} : ∀ d a, b - a = d → a < b → (∀ j p, a ≤ j → j < b → P[j]? = some p → classAll l t p = x.f2) → ∀ p q, P[a]? = some p → P[b]? = some q → ∀ y, p ≤ y → y < q → classAll l t y = x.f2 := by
  intro d
  induction d with
  | zero => intro a h1 h2; omega
  | succ d ih =>
    intro a h1 h2 h p q hp hq y hy1 hy2
    have hbl := (List.getElem?_eq_some_iff.1 hq).1
    obtain ⟨r, hr⟩ : ∃ r, P[a + 1]? = some r := ⟨_, List.getElem?_eq_getElem (by omega)⟩
    rcases ilt_or_ge y r with c | c
    · rw [hg.between hp hr hy1 c l]
      exact h a p (Nat.le_refl _) h2 hp
    · rcases Nat.lt_or_ge (a + 1) b with e | e
      · exact ih (a + 1) (by omega) e (fun j p hj => h j p (by omega)) r q hr hq y c hy2
      · obtain rfl : b = a + 1 := by omega
        rw [hr] at hq; cases hq; omega
theorem tiles {l : List PD} {t : List S100} {P : List Int} (hg : GoodP t P) : (∀ (k : Nat) (x : S61), (spansS l t P)[k]? = some x → Tile l t x) ∧
    ∀ (k : Nat) (x y : S61), (spansS l t P)[k]? = some x → (spansS l t P)[k + 1]? = some y → x.f1 ≤ y.f0 ∧ (x.f1 = y.f0 → x.f2 ≠ y.f2) := by
  have hP0 : 0 < P.length := (List.getElem?_eq_some_iff.1 hg.first).1
  have h := TI.go hg P.length 0 [] (by omega) hP0 (TI.start (classAll l t) P)
  rw [List.drop_zero] at h
  refine ⟨fun k x hx => ?_, fun k x y hx hy => h.ord k x y hx hy⟩
  obtain ⟨a, b, hs, _⟩ := h.seg k x hx
  have hbl := (List.getElem?_eq_some_iff.1 hs.to_).1
  have h0 := hg.nonneg hs.from_
  have hlt := hg.mono hs.from_ hs.to_ hs.ab
  refine ⟨h0, hlt, hs.ne, fun y hy1 hy2 => segs_all hg (b - a) a rfl hs.ab hs.all _ _ hs.from_ hs.to_ y hy1 hy2, ?_, fun hpos => ?_, ?_⟩
  · rcases Nat.lt_or_ge b (P.length - 1) with c | c
    · exact hs.behind c _ hs.to_
    · rw [hg.last hs.to_ (by omega) l]
      exact fun e => hs.ne e.symm
  · have ha : 0 < a := by
      rcases Nat.eq_zero_or_pos a with c | c
      · subst c
        have := hg.first
        rw [hs.from_] at this
        injection this with this
        omega
      · exact c
    obtain ⟨r, hr⟩ : ∃ r, P[a - 1]? = some r := ⟨_, List.getElem?_eq_getElem (by have := hs.ab; omega)⟩
    have hra := hg.mono hr hs.from_ (by omega)
    rw [hg.between hr (by rw [show a - 1 + 1 = a by omega]; exact hs.from_) (show r ≤ x.f0 - 1 by omega) (by omega) l]
    exact hs.before ha r hr
  · rcases (hg.mem x.f1).1 (List.mem_of_getElem? hs.to_) with e | e
    · omega
    · exact e.2
end Paint
end Go.Proofs.YtcijanmckhlpiaaDoor
