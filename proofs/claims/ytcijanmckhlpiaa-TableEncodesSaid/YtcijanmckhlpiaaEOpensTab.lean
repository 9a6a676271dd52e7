import Derived.Test.YtcijanmckhlpiaaOpens
import Derived.Test.YtcijanmckhlpiaaPTableEncodesx0
namespace Go.Proofs.Ytcijanmckhlpiaa
open Go.RowKit Go.Proofs.YtcijanmckhlpiaaW.PrintWords Go.Proofs.Ytcijanmckhlpiaa.PTableEncodes
/-- What a table's readings are, with their sizes. -/
def GTab (y : List (List S80) × List (List Int)) : Prop := (y.1.length * 24 ≤ 140737488351232 ∧ ∀ x ∈ y.1, x.length * 16 ≤ 140737488351232) ∧ (y.2.length * 24 ≤ 140737488351232 ∧ ∀ x ∈ y.2, x.length * 8 ≤ 140737488351232)
theorem opens80 : Opens Try.prog 80 k80 (fun _ => True) :=
  Opens.imp (opens_struct (fun x : S80 => (x.f0, x.f1)) (fun y => ⟨y.1, y.2⟩) (fun _ => rfl) Try.underlying80 (by kernel_rfl)
    (opensFs_cons rfl (by kernel_rfl) (opens_int Try.underlying78) (opensFs_last rfl (by kernel_rfl) (opens_int Try.underlying3)))) (fun _ _ => trivial)
theorem opensTable : Opens Try.prog 25 (Kd.iso (Kd.pair (Kd.slice 77 (Kd.slice 80 k80)) (Kd.slice 33 (Kd.slice 3 (Kd.int .i64)))) (fun y : List (List S80) × List (List Int) => y)) GTab :=
  Opens.imp (opens_struct (fun y => y) (fun y => y) (fun _ => rfl) Try.underlying25 (by kernel_rfl)
    (opensFs_cons rfl (by kernel_rfl) (opens_slice Try.underlying22 (by kernel_rfl) (B := 24) (by kernel_rfl) (opens_slice Try.underlying77 (by kernel_rfl) (B := 16) (by kernel_rfl) opens80))
      (opensFs_last rfl (by kernel_rfl) (opens_slice Try.underlying23 (by kernel_rfl) (B := 24) (by kernel_rfl) (opens_slice Try.underlying33 (by kernel_rfl) (B := 8) (by kernel_rfl) (opens_int Try.underlying3))))))
    (fun y h => ⟨⟨h.1.1, fun x hx => (h.1.2 x hx).1⟩, ⟨h.2.1, fun x hx => (h.2.2 x hx).1⟩⟩)
end Go.Proofs.Ytcijanmckhlpiaa
