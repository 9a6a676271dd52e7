import Derived.Test.YtcijanmckhlpiaaDoorPaintMap
import Derived.Lib.SlKeysI
namespace Go.Proofs.YtcijanmckhlpiaaDoor
open Go.RowKit Go.Proofs.YtcijanmckhlpiaaDoorW.PrintWords Go.Proofs.YtcijanmckhlpiaaDoorW.PrintLast Go.Proofs.YtcijanmckhlpiaaDoorW.PrintMore Go.Proofs.YtcijanmckhlpiaaDoor.PPaintLines
set_option linter.unusedVariables false
set_option linter.unusedSimpArgs false
namespace Paint
/-- The places that nodes begin or end at. -/
def plc (t : List S100) : List Int := t.flatMap fun x => [x.f3, x.f4]
theorem plc_take (t : List S100) (i : Nat) (h : i < t.length) : plc (t.take (i + 1)) = plc (t.take i) ++ [(t[i]).f3, (t[i]).f4] := by
  unfold plc
  rw [List.take_succ_eq_append_getElem h, List.flatMap_append]; rfl
theorem plc_len (t : List S100) : (plc t).length = 2 * t.length := by
  induction t with
  | nil => rfl
  | cons x t ih => show (x.f3 :: x.f4 :: plc t).length = _; simp only [List.length_cons, ih]; omega
/-! ### the least place above one -/
def minO (a : Int) (o : Option Int) (p : Int) : Option Int := if p > a then (match o with | none => some p | some b => if p < b then some p else some b) else o
def afterS (t : List S100) (a : Int) : Option Int := (plc t).foldl (minO a) none
theorem minO_fold (a : Int) : ∀ (ps : List Int) (o : Option Int), (ps.foldl (minO a) o = none → o = none ∧ ∀ p ∈ ps, p ≤ a) ∧
    ∀ n, ps.foldl (minO a) o = some n → (o = some n ∨ (n ∈ ps ∧ a < n)) ∧ (∀ p ∈ ps, a < p → n ≤ p) ∧ ∀ m, o = some m → n ≤ m
  | [], o => by
    refine ⟨fun h => ⟨h, by simp⟩, fun n h => ⟨.inl h, by simp, fun m hm => ?_⟩⟩
    have h' : o = some n := h
    rw [h'] at hm
    cases hm
    exact Int.le_refl _
  | q :: ps, o => by
    obtain ⟨h1, h2⟩ := minO_fold a ps (minO a o q)
    rw [List.foldl_cons]
    refine ⟨fun h => ?_, fun n h => ?_⟩
    · obtain ⟨e1, e2⟩ := h1 h
      unfold minO at e1
      split at e1
      · cases o with
        | none => cases e1
        | some b => simp only at e1; split at e1 <;> cases e1
      · rename_i hq
        exact ⟨e1, fun p hp => by rcases List.mem_cons.1 hp with rfl | hp; · omega
                                  · exact e2 p hp⟩
    · obtain ⟨e1, e2, e3⟩ := h2 n h
      by_cases hq : q > a
      · cases o with
        | none =>
          have hm : minO a none q = some q := by unfold minO; rw [if_pos hq]
          rw [hm] at e1 e3
          have e4 := e3 q rfl
          refine ⟨.inr ?_, fun p hp hap => ?_, fun m hm => by cases hm⟩
          · rcases e1 with e1 | e1
            · cases e1; exact ⟨by simp, hq⟩
            · exact ⟨by simp [e1.1], e1.2⟩
          · rcases List.mem_cons.1 hp with rfl | hp
            · exact e4
            · exact e2 p hp hap
        | some b =>
          by_cases hb : q < b
          · have hm : minO a (some b) q = some q := by unfold minO; rw [if_pos hq]; simp only; rw [if_pos hb]
            rw [hm] at e1 e3
            have e4 := e3 q rfl
            refine ⟨?_, fun p hp hap => ?_, fun m hm => by cases hm; omega⟩
            · rcases e1 with e1 | e1
              · cases e1; exact .inr ⟨by simp, hq⟩
              · exact .inr ⟨by simp [e1.1], e1.2⟩
            · rcases List.mem_cons.1 hp with rfl | hp
              · exact e4
              · exact e2 p hp hap
          · have hm : minO a (some b) q = some b := by unfold minO; rw [if_pos hq]; simp only; rw [if_neg hb]
            rw [hm] at e1 e3
            have e4 := e3 b rfl
            refine ⟨?_, fun p hp hap => ?_, fun m hm => by cases hm; omega⟩
            · rcases e1 with e1 | e1
              · exact .inl e1
              · exact .inr ⟨by simp [e1.1], e1.2⟩
            · rcases List.mem_cons.1 hp with rfl | hp
              · omega
              · exact e2 p hp hap
      · have hm : minO a o q = o := by unfold minO; rw [if_neg hq]
        rw [hm] at e1 e3
        refine ⟨?_, fun p hp hap => ?_, e3⟩
        · rcases e1 with e1 | e1
          · exact .inl e1
          · exact .inr ⟨by simp [e1.1], e1.2⟩
        · rcases List.mem_cons.1 hp with rfl | hp
          · exact absurd hap hq
          · exact e2 p hp hap
/-! ### the places at which a class may begin -/
/-- Rising; just 0 and the places above 0. -/
structure GoodP (t : List S100) (P : List Int) : Prop where
  up : P.Pairwise (· < ·)
  mem : ∀ x, x ∈ P ↔ x = 0 ∨ (0 < x ∧ x ∈ plc t)
theorem GoodP.first {t : List S100} {P : List Int} (h : GoodP t P) : P[0]? = some 0 := by
  cases P with
  | nil => exact absurd ((h.mem 0).2 (.inl rfl)) (by simp)
  | cons x P =>
    have h1 := (h.mem x).1 (by simp)
    have h2 : (0 : Int) ∈ x :: P := (h.mem 0).2 (.inl rfl)
    rcases List.mem_cons.1 h2 with e | e
    · subst e; rfl
    · have := (List.pairwise_cons.1 h.up).1 0 e
      omega
theorem GoodP.next {t : List S100} {P : List Int} (h : GoodP t P) {i : Nat} (hi : i < P.length) : afterS t P[i] = P[i + 1]? := by
  have hup : ∀ j k (hj : j < P.length) (hk : k < P.length), j < k → P[j] < P[k] := fun j k hj hk hjk => List.pairwise_iff_getElem.1 h.up j k hj hk hjk
  have h0 : 0 ≤ P[i] := by rcases (h.mem P[i]).1 (List.getElem_mem hi) with e | e <;> omega
  obtain ⟨h1, h2⟩ := minO_fold P[i] (plc t) none
  have hin : ∀ p ∈ plc t, P[i] < p → ∃ j, ∃ hj : j < P.length, i < j ∧ P[j] = p := fun p hp hlt => by
    obtain ⟨j, hj, e⟩ := List.getElem_of_mem ((h.mem p).2 (.inr ⟨by omega, hp⟩))
    refine ⟨j, hj, ?_, e⟩
    rcases Nat.lt_trichotomy i j with c | c | c
    · exact c
    · subst c; omega
    · have := hup j i hj hi c; omega
  unfold afterS
  cases ha : (plc t).foldl (minO P[i]) none with
  | none =>
    obtain ⟨_, h3⟩ := h1 ha
    rw [List.getElem?_eq_none]
    rcases Nat.lt_or_ge (i + 1) P.length with c | c
    · have hlt := hup i (i + 1) hi c (by omega)
      rcases (h.mem P[i + 1]).1 (List.getElem_mem c) with e | e
      · omega
      · have := h3 _ e.2; omega
    · exact c
  | some n =>
    obtain ⟨h3, h4, _⟩ := h2 n ha
    rcases h3 with h3 | ⟨h3, h5⟩
    · cases h3
    · obtain ⟨j, hj, hij, e⟩ := hin n h3 h5
      have hc : i + 1 < P.length := by omega
      have hlt := hup i (i + 1) hi hc (by omega)
      have hle : n ≤ P[i + 1] := by
        rcases (h.mem P[i + 1]).1 (List.getElem_mem hc) with e' | e'
        · omega
        · exact h4 _ e'.2 hlt
      have : j = i + 1 := by
        rcases Nat.lt_or_ge (i + 1) j with c | c
        · have := hup (i + 1) j hc hj c; omega
        · omega
      subst this
      rw [List.getElem?_eq_getElem hc, e]
/-! ### the map of places -/
structure CS (D : DU) (ps : List Int) : Prop where
  isMap : Maps.IsMap D
  has : ∀ x : Int, Maps.has D (.int .i64 x) = true ↔ x = 0 ∨ (0 < x ∧ x ∈ ps)
theorem CS.start (d : DU) : CS ((DataW.map []).put (.int .i64 0) d) [] := ⟨Maps.IsMap.put ⟨_, rfl⟩ _ _, fun x => by
  by_cases h : x = 0
  · subst h; simp [Maps.has_put_same (H := Unit) (D := .map []) ⟨_, rfl⟩ (show WideAt.IsKeyLit (.int .i64 0) from trivial)]
  · rw [Maps.has_put_other (fun e => h (by injection e))]
    constructor
    · intro e; cases e
    · rintro (e | e); · exact absurd e h
      · simp at e⟩
theorem CS.skip {D : DU} {ps : List Int} (h : CS D ps) {p : Int} (hp : ¬ p > 0) : CS D (ps ++ [p]) := ⟨h.isMap, fun x => by
  rw [h.has x]
  constructor
  · rintro (e | e); · exact .inl e
    · exact .inr ⟨e.1, by simp [e.2]⟩
  · rintro (e | ⟨e1, e2⟩); · exact .inl e
    · rcases List.mem_append.1 e2 with e2 | e2
      · exact .inr ⟨e1, e2⟩
      · rw [List.mem_singleton] at e2; omega⟩
theorem CS.bump {D : DU} {ps : List Int} (h : CS D ps) {p : Int} (hp : p > 0) (d : DU) : CS (D.put (.int .i64 p) d) (ps ++ [p]) := ⟨h.isMap.put _ _, fun x => by
  by_cases hx : x = p
  · subst hx
    rw [Maps.has_put_same h.isMap (show WideAt.IsKeyLit (.int .i64 x) from trivial)]
    simp; omega
  · rw [Maps.has_put_other (fun e => hx (by injection e)), h.has x]
    simp [hx]⟩
theorem GoodP.of_sorted {t : List S100} {D : DU} {ss : List Int} (hD : CS D (plc t)) (hnd : ss.Nodup) (hm : ∀ x, x ∈ ss ↔ Maps.has D (.int .i64 x) = true) : GoodP t (ss.mergeSort fun x y => decide (x ≤ y)) := by
  have hperm := List.mergeSort_perm ss (fun x y => decide (x ≤ y))
  refine ⟨?_, fun x => by rw [hperm.mem_iff, hm, hD.has]⟩
  have h1 : (ss.mergeSort fun x y => decide (x ≤ y)).Pairwise (fun a b => decide (a ≤ b) = true) := List.pairwise_mergeSort (fun a b c h1 h2 => by simp only [decide_eq_true_eq] at *; omega) (fun a b => by simp only [Bool.or_eq_true, decide_eq_true_eq]; omega) ss
  have h2 : (ss.mergeSort fun x y => decide (x ≤ y)).Nodup := hperm.nodup_iff.2 hnd
  exact (h1.and h2).imp fun {a b} h => by have := of_decide_eq_true h.1; have := h.2; omega
/-! ### the spans -/
/-- One step: the class from a to b. -/
def stepS (c : ByteArray) (out : List S61) (a b : Int) : List S61 :=
  if (c.toList == (⟨#[]⟩ : ByteArray).toList) = true then out
  else if 0 < out.length ∧ (rd_T61 out ((out.length : Int) - 1)).f1 = a ∧ ((rd_T61 out ((out.length : Int) - 1)).f2.toList == c.toList) = true then out.set (out.length - 1) { rd_T61 out ((out.length : Int) - 1) with f1 := b }
  else out ++ [⟨a, b, c⟩]
theorem stepS_len (c : ByteArray) (out : List S61) (a b : Int) : (stepS c out a b).length ≤ out.length + 1 := by
  unfold stepS
  split
  · omega
  · split
    · rw [List.length_set]; omega
    · simp
def spansGo (cls : Int → ByteArray) : List S61 → List Int → List S61
  | out, [] => out
  | out, [_] => out
  | out, a :: b :: r => spansGo cls (stepS (cls a) out a b) (b :: r)
theorem spansGo_step (cls : Int → ByteArray) (out : List S61) (P : List Int) (i : Nat) (h : i + 1 < P.length) : spansGo cls out (P.drop i) = spansGo cls (stepS (cls P[i]) out P[i] P[i + 1]) (P.drop (i + 1)) := by
  rw [List.drop_eq_getElem_cons (show i < P.length by omega), List.drop_eq_getElem_cons h]; rfl
theorem spansGo_end (cls : Int → ByteArray) (out : List S61) (P : List Int) (i : Nat) (h : ¬ i + 1 < P.length) : spansGo cls out (P.drop i) = out := by
  rcases Nat.lt_or_ge i P.length with c | c
  · rw [List.drop_eq_getElem_cons c, List.drop_eq_nil_of_le (show P.length ≤ i + 1 by omega)]; rfl
  · rw [List.drop_eq_nil_of_le c]; rfl
def spansS (l : List PD) (t : List S100) (P : List Int) : List S61 := spansGo (classAll l t) [] P
end Paint
end Go.Proofs.YtcijanmckhlpiaaDoor
