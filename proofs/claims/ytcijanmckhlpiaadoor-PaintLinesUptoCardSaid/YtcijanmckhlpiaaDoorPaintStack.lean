import Derived.Test.YtcijanmckhlpiaaDoorPaintPlain2
namespace Go.Proofs.YtcijanmckhlpiaaDoor
open Go.RowKit Go.Proofs.YtcijanmckhlpiaaDoorW.PrintWords Go.Proofs.YtcijanmckhlpiaaDoorW.PrintLast Go.Proofs.YtcijanmckhlpiaaDoorW.PrintMore Go.Proofs.YtcijanmckhlpiaaDoor.PPaintLines
set_option linter.unusedVariables false
set_option linter.unusedSimpArgs false
namespace Paint

/-! ### the program's stack of open nodes (the top first): a node's place, and how many of its children are still to come -/
def OkSt (l : List S100) (i : Nat) : Nat → List (Nat × Nat) → Prop
  | _, [] => True
  | acc, (x, m) :: st => x < i ∧ pend l 1 x = pend l (acc + m) i ∧ OkSt l i (acc + m) st
def decT : List (Nat × Nat) → List (Nat × Nat)
  | [] => []
  | (x, m) :: st => (x, m - 1) :: st
def sumS : List (Nat × Nat) → Nat
  | [] => 0
  | (_, m) :: st => m + sumS st
theorem OkSt.shift {l : List S100} {i : Nat} (hi : i < l.length) (hk : 0 ≤ (l[i]).f5) : ∀ (st : List (Nat × Nat)) (a : Nat), OkSt l i (a + 1) st → OkSt l (i + 1) (a + (l[i]).f5.toNat) st := by
  intro st
  induction st with
  | nil => intro a _; trivial
  | cons p st ih =>
    obtain ⟨x, m⟩ := p
    intro a h
    obtain ⟨h1, h2, h3⟩ := h
    refine ⟨by omega, ?_, ?_⟩
    · rw [h2, show a + 1 + m = (a + m) + 1 by omega, pend_succ hi, if_neg (by omega)]
      congr 1; omega
    · have := ih (a + m) (by rw [show a + m + 1 = a + 1 + m by omega]; exact h3)
      rwa [show a + (l[i]).f5.toNat + m = a + m + (l[i]).f5.toNat by omega]
theorem OkSt.push {l : List S100} {i : Nat} (hi : i < l.length) (hk : 0 ≤ (l[i]).f5) {st : List (Nat × Nat)} (h : OkSt l i 0 st) (hp : ∀ x m st', st = (x, m) :: st' → 0 < m) : OkSt l (i + 1) 0 ((i, (l[i]).f5.toNat) :: decT st) := by
  refine ⟨by omega, ?_, ?_⟩
  · have := pend_succ hi 0
    rw [Nat.zero_add] at this
    rw [this, if_neg (by omega), Nat.zero_add]
  · cases st with
    | nil => trivial
    | cons p st =>
      obtain ⟨x, m⟩ := p
      have hm : 0 < m := hp x m st rfl
      obtain ⟨h1, h2, h3⟩ := h
      refine ⟨by omega, ?_, ?_⟩
      · rw [h2, show 0 + m = (m - 1) + 1 by omega, pend_succ hi, if_neg (by omega)]
        congr 1; omega
      · have := OkSt.shift hi hk st (m - 1) (by rw [show m - 1 + 1 = 0 + m by omega]; exact h3)
        rwa [show 0 + (l[i]).f5.toNat + (m - 1) = m - 1 + (l[i]).f5.toNat by omega]
theorem OkSt.lt {l : List S100} {i : Nat} : ∀ (st : List (Nat × Nat)) (a : Nat), OkSt l i a st → ∀ p ∈ st, p.1 < i := by
  intro st
  induction st with
  | nil => intro a _ p hp; cases hp
  | cons q st ih =>
    obtain ⟨x, m⟩ := q
    intro a h p hp
    rcases List.mem_cons.1 hp with rfl | hp
    · exact h.1
    · exact ih _ h.2.2 p hp
/-- The ends that are known: of every place behind us that is not open. -/
def EndsOk (l : List S100) (i : Nat) (st : List (Nat × Nat)) (E : List Int) : Prop := E.length = l.length ∧ ∀ x, x < i → (∀ p ∈ st, p.1 ≠ x) → E[x]? = some ((en l x : Nat) : Int)
/-- The state behind a node (the topmost may be done). -/
structure MidSt (l : List S100) (i : Nat) (st : List (Nat × Nat)) (E : List Int) : Prop where
  ok : OkSt l i 0 st
  ends : EndsOk l i st E
  run : run 0 l = run (sumS st) (l.drop i)
/-- The state ahead of a node: the topmost has children to come. -/
structure HeadSt (l : List S100) (i : Nat) (st : List (Nat × Nat)) (E : List Int) : Prop where
  mid : MidSt l i st E
  pos : ∀ x m st', st = (x, m) :: st' → 0 < m
theorem HeadSt.start (l : List S100) (E : List Int) (hE : E.length = l.length) : HeadSt l 0 [] E := ⟨⟨trivial, ⟨hE, fun x hx => by omega⟩, rfl⟩, fun x m st' h => by cases h⟩
theorem decT_mem {st : List (Nat × Nat)} {y : Nat} (h : ∀ p ∈ decT st, p.1 ≠ y) : ∀ p ∈ st, p.1 ≠ y := by
  cases st with
  | nil => exact h
  | cons q st =>
    obtain ⟨x, m⟩ := q
    intro p hp
    rcases List.mem_cons.1 hp with rfl | hp
    · exact h (x, m - 1) (by simp [decT])
    · exact h p (by simp [decT, hp])
theorem HeadSt.push {l : List S100} {i : Nat} {st : List (Nat × Nat)} {E : List Int} (h : HeadSt l i st E) (hi : i < l.length) (hk : 0 ≤ (l[i]).f5) : MidSt l (i + 1) ((i, (l[i]).f5.toNat) :: decT st) E := by
  refine ⟨OkSt.push hi hk h.mid.ok (fun x m st' e => h.pos x m st' e), ⟨h.mid.ends.1, fun y hy hn => ?_⟩, ?_⟩
  · have hyi : y ≠ i := fun e => hn (i, (l[i]).f5.toNat) (by simp) e.symm
    exact h.mid.ends.2 y (by omega) (decT_mem (fun p hp => hn p (by simp [hp])))
  · rw [h.mid.run, List.drop_eq_getElem_cons hi]
    have e1 : ∀ M x (r : List S100), Paint.run M (x :: r) = if x.f5 < 0 then false else Paint.run (M - 1 + x.f5.toNat) r := fun M x r => by cases M <;> rfl
    rw [e1, if_neg (by omega)]
    congr 1
    cases st with
    | nil => simp [sumS, decT]
    | cons q st =>
      obtain ⟨x, m⟩ := q
      have := h.pos x m st rfl
      simp only [sumS, decT]; omega
theorem HeadSt.bad {l : List S100} {i : Nat} {st : List (Nat × Nat)} {E : List Int} (h : HeadSt l i st E) (hi : i < l.length) (hk : (l[i]).f5 < 0) : Paint.run 0 l = false := by
  rw [h.mid.run, List.drop_eq_getElem_cons hi]
  have e1 : ∀ M x (r : List S100), Paint.run M (x :: r) = if x.f5 < 0 then false else Paint.run (M - 1 + x.f5.toNat) r := fun M x r => by cases M <;> rfl
  rw [e1, if_pos hk]
theorem MidSt.pop {l : List S100} {i x : Nat} {st : List (Nat × Nat)} {E : List Int} (hil : i ≤ l.length) (h : MidSt l i ((x, 0) :: st) E) : x < i ∧ MidSt l i st (E.set x (i : Int)) := by
  obtain ⟨h1, h2, h3⟩ := h.ok
  refine ⟨h1, h3, ⟨by rw [List.length_set]; exact h.ends.1, fun y hy hn => ?_⟩, ?_⟩
  · rw [List.getElem?_set]
    by_cases e : x = y
    · subst e
      rw [if_pos rfl, if_pos (by have := h.ends.1; omega)]
      have : en l x = i := by unfold en; rw [h2, Nat.zero_add, pend_zero hil]; rfl
      rw [this]
    · rw [if_neg e]
      exact h.ends.2 y hy (fun p hp => by
        rcases List.mem_cons.1 hp with rfl | hp
        · exact e
        · exact hn p hp)
  · rw [h.run]; simp [sumS]
theorem HeadSt.fin {l : List S100} {st : List (Nat × Nat)} {E : List Int} (h : HeadSt l l.length st E) : Paint.run 0 l = decide (st = []) ∧ (st = [] → E = (List.range l.length).map (fun x => ((en l x : Nat) : Int))) := by
  constructor
  · rw [h.mid.run, List.drop_length]
    cases st with
    | nil => rfl
    | cons q st =>
      obtain ⟨x, m⟩ := q
      have hp := h.pos x m st rfl
      have e1 : ∀ M, Paint.run M [] = (M == 0) := fun M => by cases M <;> rfl
      rw [e1, decide_eq_false (by simp)]
      simp only [sumS]
      exact beq_eq_false_iff_ne.2 (by omega)
  · intro e
    subst e
    refine List.ext_getElem? fun x => ?_
    rcases Nat.lt_or_ge x l.length with hx | hx
    · rw [h.mid.ends.2 x hx (fun p hp => by cases hp), List.getElem?_map, List.getElem?_range hx]; rfl
    · rw [List.getElem?_eq_none (by have := h.mid.ends.1; omega), List.getElem?_eq_none (by simp; omega)]
end Paint
end Go.Proofs.YtcijanmckhlpiaaDoor
