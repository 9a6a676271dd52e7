import Derived.Test.YtcijanmckhlpiaaDoorOpensPaint
namespace Go.Proofs.YtcijanmckhlpiaaDoor
open Go.RowKit Go.Proofs.YtcijanmckhlpiaaDoorW.PrintWords Go.Proofs.YtcijanmckhlpiaaDoor.PPaintLines
set_option linter.unusedVariables false
set_option linter.unusedSimpArgs false
/-- What opening a list of nodes says of each. -/
structure NodeOk (x : S100) : Prop where
  name : x.f0.size ≤ maxLen
  from_ : (Lit.int .i64 x.f3).wf = true
  to_ : (Lit.int .i64 x.f4).wf = true
  kids : (Lit.int .i64 x.f5).wf = true
theorem opensNodesAll : Opens Tryd.prog 38 (Kd.slice 100 k100) (fun l => l.length * 72 ≤ 140737488351232 ∧ ∀ x ∈ l, NodeOk x) :=
  Opens.imp (opens_slice Tryd.underlying38 (by kernel_rfl) (B := 72) (by kernel_rfl) (opens_struct (fun x : S100 => (x.f0, x.f1, x.f2, x.f3, x.f4, x.f5, x.f6)) (fun y => ⟨y.1, y.2.1, y.2.2.1, y.2.2.2.1, y.2.2.2.2.1, y.2.2.2.2.2.1, y.2.2.2.2.2.2⟩) (fun _ => rfl) Tryd.underlying100 (by kernel_rfl) (opensFs_cons rfl (by kernel_rfl) (opens_string Tryd.underlying9) (opensFs_cons rfl (by kernel_rfl) (opens_bool Tryd.underlying4) (opensFs_cons rfl (by kernel_rfl) (opens_string Tryd.underlying9) (opensFs_cons rfl (by kernel_rfl) (opens_int Tryd.underlying3) (opensFs_cons rfl (by kernel_rfl) (opens_int Tryd.underlying3) (opensFs_cons rfl (by kernel_rfl) (opens_int Tryd.underlying3) (opensFs_last rfl (by kernel_rfl) (opens_int Tryd.underlying3)))))))))) (fun _ h => ⟨h.1, fun x hx => ⟨by have h9 : x.f0.size ≤ 140737488351232 := (h.2 x hx).1; simp only [maxLen]; omega, (h.2 x hx).2.2.2.1, (h.2 x hx).2.2.2.2.1, (h.2 x hx).2.2.2.2.2.1⟩⟩)
end Go.Proofs.YtcijanmckhlpiaaDoor
