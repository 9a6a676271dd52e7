import Derived.Test.YtcijanmckhlpiaaDoorPaintLine
namespace Go.Proofs.YtcijanmckhlpiaaDoor
open Go.RowKit Go.Proofs.YtcijanmckhlpiaaDoorW.PrintWords Go.Proofs.YtcijanmckhlpiaaDoorW.PrintLast Go.Proofs.YtcijanmckhlpiaaDoorW.PrintMore Go.Proofs.YtcijanmckhlpiaaDoor.PPaintLines
set_option linter.unusedVariables false
set_option linter.unusedSimpArgs false
namespace Paint
theorem pathS_mem (t : List S100) (p : Int) : ∀ d i e, ∀ x ∈ pathS t p d i e, 0 ≤ x ∧ x < (t.length : Int) := by
  intro d
  induction d with
  | zero => intro i e x hx; cases hx
  | succ d ih =>
    intro i e x hx
    unfold pathS at hx
    split at hx
    · rename_i h
      split at hx
      · rcases List.mem_cons.1 hx with rfl | hx
        · omega
        · exact ih _ _ x hx
      · exact ih _ _ x hx
    · cases hx
theorem pathAll_mem (t : List S100) (p : Int) : ∀ x ∈ pathAll t p, 0 ≤ x ∧ x < (t.length : Int) := by
  intro x hx
  unfold pathAll at hx
  split at hx
  · exact pathS_mem t p _ _ _ x hx
  · cases hx
theorem pathAll_len (t : List S100) (p : Int) : (pathAll t p).length ≤ t.length := by
  unfold pathAll
  split
  · have := pathS_len t p t.length 0 t.length; omega
  · exact Nat.zero_le _
/-- The class by the innermost of these nodes that a line names. -/
def clsS (l : List PD) (t : List S100) : List Int → ByteArray
  | [] => ⟨#[]⟩
  | i :: r => match lineS (rd_T100 t i).f0 l with
    | some c => c
    | none => clsS l t r
/-- The class of a byte. -/
def classAll (l : List PD) (t : List S100) (p : Int) : ByteArray := if p < 0 then ⟨#[]⟩ else clsS l t (pathAll t p).reverse
theorem clsS_step (l : List PD) (t : List S100) (q : List Int) (j : Nat) (h : j < q.length) : clsS l t (q.take (j + 1)).reverse = match lineS (rd_T100 t q[j]).f0 l with | some c => c | none => clsS l t (q.take j).reverse := by
  rw [List.take_succ_eq_append_getElem h, List.reverse_append]; rfl
end Paint
end Go.Proofs.YtcijanmckhlpiaaDoor
