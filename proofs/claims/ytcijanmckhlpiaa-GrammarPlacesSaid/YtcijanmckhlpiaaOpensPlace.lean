import Derived.Test.YtcijanmckhlpiaaOpens
import Derived.Test.YtcijanmckhlpiaaPGrammarPlacesx0
namespace Go.Proofs.Ytcijanmckhlpiaa
open Go.RowKit Go.Proofs.YtcijanmckhlpiaaW.PrintWords Go.Proofs.Ytcijanmckhlpiaa.PGrammarPlaces
abbrev sK : Kd (List Int) := Kd.slice 3 (Kd.int .i64)
abbrev nK : Kd (List (List Int)) := Kd.slice 33 (Kd.slice 3 (Kd.int .i64))
theorem opensInts : Opens Try.prog 33 sK (fun l => l.length * 8 ≤ 140737488351232) :=
  Opens.imp (opens_slice Try.underlying33 (by kernel_rfl) (B := 8) (by kernel_rfl) (opens_int Try.underlying3)) (fun _ h => h.1)
theorem opensRows : Opens Try.prog 23 nK (fun l => l.length * 24 ≤ 140737488351232 ∧ ∀ x ∈ l, x.length * 8 ≤ 140737488351232) :=
  Opens.imp (opens_slice Try.underlying23 (by kernel_rfl) (B := 24) (by kernel_rfl) opensInts) (fun _ h => h)
theorem opensSpots : Opens Try.prog 35 (Kd.iso (Kd.pair sK (Kd.pair sK (Kd.pair sK (Kd.pair sK (Kd.pair sK (Kd.pair sK (Kd.pair sK (Kd.pair sK (nK))))))))) (fun y : List Int × List Int × List Int × List Int × List Int × List Int × List Int × List Int × List (List Int) => y)) (fun y => y.1.length * 8 ≤ 140737488351232 ∧ y.2.1.length * 8 ≤ 140737488351232 ∧ y.2.2.1.length * 8 ≤ 140737488351232 ∧ y.2.2.2.1.length * 8 ≤ 140737488351232 ∧ y.2.2.2.2.1.length * 8 ≤ 140737488351232 ∧ y.2.2.2.2.2.1.length * 8 ≤ 140737488351232 ∧ y.2.2.2.2.2.2.1.length * 8 ≤ 140737488351232 ∧ y.2.2.2.2.2.2.2.1.length * 8 ≤ 140737488351232 ∧ (y.2.2.2.2.2.2.2.2.length * 24 ≤ 140737488351232 ∧ ∀ x ∈ y.2.2.2.2.2.2.2.2, x.length * 8 ≤ 140737488351232)) :=
  Opens.imp (opens_struct (fun y => y) (fun y => y) (fun _ => rfl) Try.underlying35 (by kernel_rfl) (opensFs_cons rfl (by kernel_rfl) opensInts (opensFs_cons rfl (by kernel_rfl) opensInts (opensFs_cons rfl (by kernel_rfl) opensInts (opensFs_cons rfl (by kernel_rfl) opensInts (opensFs_cons rfl (by kernel_rfl) opensInts (opensFs_cons rfl (by kernel_rfl) opensInts (opensFs_cons rfl (by kernel_rfl) opensInts (opensFs_cons rfl (by kernel_rfl) opensInts (opensFs_last rfl (by kernel_rfl) opensRows)))))))))) (fun _ h => h)
theorem opensFlaw : Opens Try.prog 39 (Kd.iso (Kd.pair (Kd.int .i64) (Kd.pair (Kd.int .i64) (Kd.pair (Kd.int .i64) (Kd.int .i64)))) (fun y : Int × Int × Int × Int => y)) (fun _ => True) :=
  Opens.imp (opens_struct (fun y => y) (fun y => y) (fun _ => rfl) Try.underlying39 (by kernel_rfl) (opensFs_cons rfl (by kernel_rfl) (opens_int Try.underlying36) (opensFs_cons rfl (by kernel_rfl) (opens_int Try.underlying37) (opensFs_cons rfl (by kernel_rfl) (opens_int Try.underlying3) (opensFs_last rfl (by kernel_rfl) (opens_int Try.underlying3)))))) (fun _ _ => trivial)
end Go.Proofs.Ytcijanmckhlpiaa
