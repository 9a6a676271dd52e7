import Derived.Test.YtcijanmckhlpiaaDoorDAction
namespace Go.Proofs.YtcijanmckhlpiaaDoor
open Go.RowKit Go.Proofs.YtcijanmckhlpiaaDoorW.PrintWords Go.Proofs.YtcijanmckhlpiaaDoorW.PrintLast Go.Proofs.YtcijanmckhlpiaaDoorW.PrintMore Go.Proofs.YtcijanmckhlpiaaDoor.PTableDecodes
set_option linter.unusedVariables false
set_option linter.unusedSimpArgs false
namespace Dec
/-- m things, one behind the other; the place of the first that is none. -/
def many {α : Type} (rd : Nat → Except Nat (α × Nat)) : Nat → Nat → Except Nat (List α × Nat)
  | 0, p => .ok ([], p)
  | m + 1, p => match rd p with
    | .error e => .error e
    | .ok (x, q) => match many rd m q with
      | .error e => .error e
      | .ok (l, r) => .ok (x :: l, r)
def cat {α : Type} (acc : List α) : Except Nat (List α × Nat) → Except Nat (List α × Nat)
  | .error e => .error e
  | .ok (l, r) => .ok (acc ++ l, r)
theorem cat_nil {α : Type} (x : Except Nat (List α × Nat)) : cat [] x = x := by rcases x with _ | ⟨l, r⟩ <;> rfl
theorem cat_done {α : Type} (rd : Nat → Except Nat (α × Nat)) (acc : List α) (q : Nat) : cat acc (many rd 0 q) = .ok (acc, q) := by simp [many, cat]
theorem cat_bad {α : Type} {rd : Nat → Except Nat (α × Nat)} (acc : List α) {m q e : Nat} (h : rd q = .error e) : cat acc (many rd (m + 1) q) = .error e := by simp [many, h, cat]
theorem cat_more {α : Type} {rd : Nat → Except Nat (α × Nat)} (acc : List α) {m q q' : Nat} {x : α} (h : rd q = .ok (x, q')) : cat acc (many rd (m + 1) q) = cat (acc ++ [x]) (many rd m q') := by
  simp only [many, h]
  rcases many rd m q' with _ | ⟨l, r⟩
  · rfl
  · simp [cat]
theorem many_length {α : Type} {rd : Nat → Except Nat (α × Nat)} : ∀ {m p : Nat} {l : List α} {r : Nat}, many rd m p = .ok (l, r) → l.length = m := by
  intro m
  induction m with
  | zero => intro p l r h; simp [many] at h; rw [h.1]; rfl
  | succ m ih =>
    intro p l r h
    simp only [many] at h
    rcases hr : rd p with _ | ⟨x, q⟩
    · rw [hr] at h; cases h
    · rw [hr] at h
      simp only at h
      rcases hm : many rd m q with _ | ⟨l', r'⟩
      · rw [hm] at h; cases h
      · rw [hm] at h
        cases h
        simp [ih hm]
def actR (s : ByteArray) (st : Int) (p : Nat) : Except Nat (S93 × Nat) := match actS s st p with | none => .error p | some r => .ok r
def goR (s : ByteArray) (st : Int) (p : Nat) : Except Nat (Int × Nat) := match within s 0 st p with | none => .error p | some r => .ok (r.1 - 1, r.2)
def bodS (s : ByteArray) (st : Int) (te sy p : Nat) : Except Nat (List (List S93) × List (List Int)) :=
  match many (many (actR s st) te) st.toNat p with
  | .error e => .error e
  | .ok (rows, p4) => match many (many (goR s st) sy) st.toNat p4 with
    | .error e => .error e
    | .ok (gos, p5) => if p5 < s.size then .error p5 else .ok (rows, gos)
def tabS (s : ByteArray) (p : Nat) : Except Nat (List (List S93) × List (List Int)) :=
  match within s 1 2048 p with
  | none => .error p
  | some (st, p1) => match within s 1 64 p1 with
    | none => .error p1
    | some (te, p2) => match within s 0 128 p2 with
      | none => .error p2
      | some (sy, p3) => bodS s st te.toNat sy.toNat p3
/-- The document's of every image. -/
def decS (s : ByteArray) : Except Nat (List (List S93) × List (List Int)) :=
  if ¬ (0 < s.size ∧ bt s 0 = 84) then .error 0 else if ¬ (1 < s.size ∧ bt s 1 = 1) then .error 1 else tabS s 2
/-- Where the head's reading stands. -/
def HD (s : ByteArray) (p : Nat) : Nat → Int → Int → Int → Nat → Prop
  | 0, x0, x1, x2, q => x0 = 0 ∧ x1 = 0 ∧ x2 = 0 ∧ q = p
  | 1, x0, x1, x2, q => within s 1 2048 p = some (x0, q) ∧ x1 = 0 ∧ x2 = 0
  | 2, x0, x1, x2, q => ∃ q1, within s 1 2048 p = some (x0, q1) ∧ within s 1 64 q1 = some (x1, q) ∧ x2 = 0
  | _, x0, x1, x2, q => ∃ q1 q2, within s 1 2048 p = some (x0, q1) ∧ within s 1 64 q1 = some (x1, q2) ∧ within s 0 128 q2 = some (x2, q)
theorem HD.bad0 {s : ByteArray} {p q : Nat} {x0 x1 x2 : Int} (h : HD s p 0 x0 x1 x2 q) (hw : within s 1 2048 q = none) : tabS s p = .error q := by
  obtain ⟨_, _, _, rfl⟩ := h
  unfold tabS; rw [hw]
theorem HD.bad1 {s : ByteArray} {p q : Nat} {x0 x1 x2 : Int} (h : HD s p 1 x0 x1 x2 q) (hw : within s 1 64 q = none) : tabS s p = .error q := by
  obtain ⟨h1, _, _⟩ := h
  unfold tabS; rw [h1]; simp only; rw [hw]
theorem HD.bad2 {s : ByteArray} {p q : Nat} {x0 x1 x2 : Int} (h : HD s p 2 x0 x1 x2 q) (hw : within s 0 128 q = none) : tabS s p = .error q := by
  obtain ⟨q1, h1, h2, _⟩ := h
  unfold tabS; rw [h1]; simp only; rw [h2]; simp only; rw [hw]
theorem HD.all {s : ByteArray} {p q : Nat} {x0 x1 x2 : Int} (h : HD s p 3 x0 x1 x2 q) : tabS s p = bodS s x0 x1.toNat x2.toNat q ∧ 1 ≤ x0 ∧ x0 ≤ 2048 ∧ 1 ≤ x1 ∧ x1 ≤ 64 ∧ 0 ≤ x2 ∧ x2 ≤ 128 := by
  obtain ⟨q1, q2, h1, h2, h3⟩ := h
  refine ⟨by unfold tabS; rw [h1]; simp only; rw [h2]; simp only; rw [h3], ?_⟩
  have a := within_bound h1
  have b := within_bound h2
  have c := within_bound h3
  exact ⟨a.1, a.2.1, b.1, b.2.1, c.1, c.2.1⟩
end Dec
end Go.Proofs.YtcijanmckhlpiaaDoor
