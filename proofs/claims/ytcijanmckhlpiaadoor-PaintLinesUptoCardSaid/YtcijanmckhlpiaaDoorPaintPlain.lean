import Derived.Test.YtcijanmckhlpiaaDoorPaintCut
namespace Go.Proofs.YtcijanmckhlpiaaDoor
open Go.RowKit Go.Proofs.YtcijanmckhlpiaaDoorW.PrintWords Go.Proofs.YtcijanmckhlpiaaDoorW.PrintLast Go.Proofs.YtcijanmckhlpiaaDoorW.PrintMore Go.Proofs.YtcijanmckhlpiaaDoor.PPaintLines
set_option linter.unusedVariables false
set_option linter.unusedSimpArgs false
namespace Paint

theorem w64_nat {i : Nat} (h : i + 1 ≤ 9223372036854775807) : wrap64 ((i : Int) + 1) = ((i + 1 : Nat) : Int) := by unfold wrap64; omega
theorem rdT_get (row : List S100) (i : Nat) (h : i < row.length) : rd_T100 row (i : Int) = row[i] := by
  unfold rd_T100
  rw [Int.toNat_natCast, List.getD_eq_getElem?_getD, List.getElem?_eq_getElem h]; rfl
/-! ### forests as lists: how far n trees go -/
/-- What is left of a list behind n trees. -/
def par : Nat → List S100 → Option (List S100)
  | 0, l => some l
  | _ + 1, [] => none
  | n + 1, x :: l => if x.f5 < 0 then none else par (n + x.f5.toNat) l
/-- Is a list a forest, of whose open nodes M children are still to come? -/
def run : Nat → List S100 → Bool
  | M, [] => M == 0
  | M, x :: l => if x.f5 < 0 then false else run (M - 1 + x.f5.toNat) l
theorem par_zero (l : List S100) : par 0 l = some l := by cases l <;> rfl
theorem par_add (l : List S100) : ∀ m n : Nat, par (m + n) l = (par m l).bind (par n) := by
  induction l with
  | nil =>
    intro m n
    cases m with
    | zero => rw [Nat.zero_add, par_zero]; rfl
    | succ m => rw [show m + 1 + n = (m + n) + 1 by omega]; rfl
  | cons x l ih =>
    intro m n
    cases m with
    | zero => rw [Nat.zero_add, par_zero]; rfl
    | succ m =>
      rw [show m + 1 + n = (m + n) + 1 by omega]
      unfold par
      by_cases h : x.f5 < 0
      · simp only [if_pos h]; rfl
      · simp only [if_neg h]
        rw [show m + n + x.f5.toNat = (m + x.f5.toNat) + n by omega]
        exact ih _ _
theorem par_suffix (l : List S100) : ∀ (n : Nat) (r : List S100), par n l = some r → n + r.length ≤ l.length ∧ r = l.drop (l.length - r.length) := by
  induction l with
  | nil =>
    intro n r h
    cases n with
    | zero => rw [par_zero] at h; injection h with h; subst h; simp
    | succ n => cases h
  | cons x l ih =>
    intro n r h
    cases n with
    | zero => rw [par_zero] at h; injection h with h; subst h; simp
    | succ n =>
      unfold par at h
      by_cases hx : x.f5 < 0
      · rw [if_pos hx] at h; cases h
      · rw [if_neg hx] at h
        obtain ⟨h1, h2⟩ := ih _ _ h
        refine ⟨by simp only [List.length_cons]; omega, ?_⟩
        rw [List.length_cons, show l.length + 1 - r.length = (l.length - r.length) + 1 by omega, List.drop_succ_cons]
        exact h2
theorem run_par (l : List S100) : ∀ M : Nat, run M l = (match par M l with | some r => run 0 r | none => false) := by
  induction l with
  | nil =>
    intro M
    cases M with
    | zero => rw [par_zero]
    | succ M => rfl
  | cons x l ih =>
    intro M
    cases M with
    | zero => rw [par_zero]
    | succ M =>
      have e1 : run (M + 1) (x :: l) = if x.f5 < 0 then false else run (M + x.f5.toNat) l := rfl
      have e2 : par (M + 1) (x :: l) = if x.f5 < 0 then none else par (M + x.f5.toNat) l := rfl
      rw [e1, e2]
      by_cases hx : x.f5 < 0
      · simp only [if_pos hx]
      · simp only [if_neg hx]
        exact ih _
/-- The place behind n trees from a place on. -/
def pend (t : List S100) (n a : Nat) : Option Nat := (par n (t.drop a)).map fun r => t.length - r.length
theorem pend_zero {t : List S100} {a : Nat} (h : a ≤ t.length) : pend t 0 a = some a := by
  unfold pend
  rw [par_zero, Option.map_some, List.length_drop]
  congr 1; omega
theorem pend_out {t : List S100} {a : Nat} (h : t.length ≤ a) (n : Nat) : pend t (n + 1) a = none := by
  unfold pend
  rw [List.drop_eq_nil_of_le h]; rfl
theorem pend_succ {t : List S100} {a : Nat} (h : a < t.length) (n : Nat) : pend t (n + 1) a = if (t[a]).f5 < 0 then none else pend t (n + (t[a]).f5.toNat) (a + 1) := by
  unfold pend
  rw [List.drop_eq_getElem_cons h]
  conv => lhs; unfold par
  split <;> rfl
theorem pend_spec {t : List S100} {n a b : Nat} (ha : a ≤ t.length) (h : pend t n a = some b) : a + n ≤ b ∧ b ≤ t.length ∧ par n (t.drop a) = some (t.drop b) := by
  unfold pend at h
  cases hp : par n (t.drop a) with
  | none => rw [hp] at h; cases h
  | some r =>
    rw [hp, Option.map_some] at h
    injection h with h
    obtain ⟨h1, h2⟩ := par_suffix _ _ _ hp
    rw [List.length_drop] at h1 h2
    refine ⟨by omega, by omega, ?_⟩
    rw [List.drop_drop] at h2
    rw [← h, h2, List.length_drop]
    congr 1; congr 1; omega
theorem pend_add {t : List S100} {a : Nat} (ha : a ≤ t.length) (m n : Nat) : pend t (m + n) a = (pend t m a).bind (pend t n) := by
  cases hm : pend t m a with
  | none =>
    unfold pend at hm ⊢
    rw [par_add]
    cases hp : par m (t.drop a) with
    | none => rfl
    | some r => rw [hp] at hm; cases hm
  | some b =>
    obtain ⟨_, _, h3⟩ := pend_spec ha hm
    show _ = pend t n b
    unfold pend
    rw [par_add, h3]; rfl
theorem run_at {t : List S100} {a : Nat} (h : a < t.length) : run 0 (t.drop a) = (match pend t 1 a with | some b => run 0 (t.drop b) | none => false) := by
  have e : run 0 (t.drop a) = run 1 (t.drop a) := by rw [List.drop_eq_getElem_cons h]; rfl
  rw [e, run_par]
  cases hp : pend t 1 a with
  | none =>
    unfold pend at hp
    cases hq : par 1 (t.drop a) with
    | none => rfl
    | some r => rw [hq] at hp; cases hp
  | some b => rw [(pend_spec (by omega) hp).2.2]

/-! ### the nodes that cover a byte -/
/-- The place behind the tree at a place. -/
def en (t : List S100) (i : Nat) : Nat := (pend t 1 i).getD t.length
/-- The nodes that cover a byte: from place i on, up to e (d: how many places at most). -/
def pathS (t : List S100) (p : Int) : Nat → Nat → Nat → List Int
  | 0, _, _ => []
  | d + 1, i, e => if h : i < e ∧ i < t.length then (if (t[i]'h.2).f3 ≤ p ∧ p < (t[i]'h.2).f4 then (i : Int) :: pathS t p d (i + 1) (en t i) else pathS t p d (en t i) e) else []
theorem pathS_len (t : List S100) (p : Int) : ∀ d i e, (pathS t p d i e).length ≤ t.length - i := by
  intro d
  induction d with
  | zero => intro i e; exact Nat.zero_le _
  | succ d ih =>
    intro i e
    unfold pathS
    split
    · rename_i h
      split
      · have := ih (i + 1) (en t i)
        simp only [List.length_cons]; omega
      · have h1 := ih (en t i) e
        have h2 : i ≤ en t i := by
          unfold en
          cases hp : pend t 1 i with
          | none => exact Nat.le_of_lt h.2
          | some b => have := (pend_spec (Nat.le_of_lt h.2) hp).1; show i ≤ b; omega
        omega
    · exact Nat.zero_le _
/-- What both say: the nodes that cover a byte; none, if the list is no forest. -/
def pathAll (t : List S100) (p : Int) : List Int := if run 0 t = true then pathS t p t.length 0 t.length else []
end Paint
end Go.Proofs.YtcijanmckhlpiaaDoor
