import Derived.Test.YtcijanmckhlpiaaOpensPaint
namespace Go.Proofs.Ytcijanmckhlpiaa
open Go.RowKit Go.Proofs.YtcijanmckhlpiaaW.PrintWords Go.Proofs.Ytcijanmckhlpiaa.PPaintClasses
set_option linter.unusedVariables false
set_option linter.unusedSimpArgs false
/-- What opening a list of nodes says of each. -/
structure NodeOk (x : S76) : Prop where
  name : x.f0.size ≤ maxLen
  from_ : (Lit.int .i64 x.f3).wf = true
  to_ : (Lit.int .i64 x.f4).wf = true
  kids : (Lit.int .i64 x.f5).wf = true
theorem opensNodesAll : Opens Try.prog 45 (Kd.slice 76 k76) (fun l => l.length * 72 ≤ 140737488351232 ∧ ∀ x ∈ l, NodeOk x) :=
  Opens.imp (opens_slice Try.underlying45 (by kernel_rfl) (B := 72) (by kernel_rfl) (opens_struct (fun x : S76 => (x.f0, x.f1, x.f2, x.f3, x.f4, x.f5, x.f6)) (fun y => ⟨y.1, y.2.1, y.2.2.1, y.2.2.2.1, y.2.2.2.2.1, y.2.2.2.2.2.1, y.2.2.2.2.2.2⟩) (fun _ => rfl) Try.underlying76 (by kernel_rfl) (opensFs_cons rfl (by kernel_rfl) (opens_string Try.underlying9) (opensFs_cons rfl (by kernel_rfl) (opens_bool Try.underlying4) (opensFs_cons rfl (by kernel_rfl) (opens_string Try.underlying9) (opensFs_cons rfl (by kernel_rfl) (opens_int Try.underlying3) (opensFs_cons rfl (by kernel_rfl) (opens_int Try.underlying3) (opensFs_cons rfl (by kernel_rfl) (opens_int Try.underlying3) (opensFs_last rfl (by kernel_rfl) (opens_int Try.underlying3)))))))))) (fun _ h => ⟨h.1, fun x hx => ⟨by have h9 : x.f0.size ≤ 140737488351232 := (h.2 x hx).1; simp only [maxLen]; omega, (h.2 x hx).2.2.2.1, (h.2 x hx).2.2.2.2.1, (h.2 x hx).2.2.2.2.2.1⟩⟩)
end Go.Proofs.Ytcijanmckhlpiaa
