/- For every table, well shaped or not, TableEncodes returns true: Encode of the program is the document's image, byte by byte, on a copy with marked spare room that it leaves as it was, and again when the copy's rows are written over; the argument reads behind the call as it read before.
   Conditions: those of the given row alone (each slice that is read takes at most 2^47 - 4096 bytes). -/
import Derived.Test.YtcijanmckhlpiaaRows
import Derived.Test.YtcijanmckhlpiaaEncLaw
import Derived.Test.YtcijanmckhlpiaaEOpensTab
import Derived.WalkKit
import Derived.ProofKit
import Derived.OpenShut
import Derived.ShutString
import Derived.ChangeOld
import Derived.Below
import Derived.SizedLaws
namespace Go.Proofs.Ytcijanmckhlpiaa.tableEncodes
open Go.ChangeShapes Go.WideShapes Go.ChangeAt Go.RowKit
open Go.ChangeMaps (open_string shut_string)
open Go.Proofs.YtcijanmckhlpiaaW.PrintWords Go.Proofs.Ytcijanmckhlpiaa.PTableEncodes
set_option linter.unusedVariables false
set_option linter.unusedSimpArgs false
theorem own : ownKnob Try.prog.godebug = none := by kernel_rfl
theorem laidOut : laidOutB Try.prog = true := by kernel_rfl
set_option maxRecDepth 100000 in
theorem lifted (os : Os) (started : os.Started) (H : Type) (enc : TypeId × Value → H) :
    ReturnsInHanded {} Try.checked os 6 .any (Rows.tableEncodesSpec.pre6 enc Try.prog Try.f6 Rows.tableEncodesRow.domain false) (Rows.tableEncodesSpec.post enc Try.prog Try.f6 false true false false) := by
  refine returnsInHanded_of_change_sized (C := Try.checked) own started (by kernel_rfl) Try.func6
    (ChangeSpec.witness6 (enc := enc) (C := Try.checked) false ⟨#[], #[.agg #[.slice none 0 0, .slice none 0 0]], []⟩ 8 (by kernel_rfl) (by kernel_rfl) (by kernel_rfl) (by kernel_rfl)) ?_
  intro W base args ds gs before hval0 hW hcnd hsz0 _
  have hsz : (DataW.weightsEach Try.prog (Try.f6.params.toList ++ Rows.tableEncodesSpec.plain.varTypes Try.prog) (ds ++ gs)).all (· ≤ reachBytes) = true := hsz0
  have hval : ∀ (j : Nat) t v, Try.f6.params[j]? = some t → args[j]? = some v → Value.okWide Try.prog W .any base t v := hval0
  have hW' := hW
  obtain ⟨p, q, hA0, hV, rfl, hfz, hnd⟩ := hW
  have hA : DataW.TrodAll enc Try.prog W 0 (fun _ => true) true Try.f6.params.toList args.toList ds p := hA0
  rw [Try.params6] at hA hval hsz
  obtain ⟨v0, vs0, d0, ds0, p0, q0, hargs, rfl, rfl, h0, r0⟩ := trodAll_cons hA
  obtain ⟨rfl, rfl, rfl⟩ := trodAll_nil r0
  obtain rfl : args = #[v0] := by cases args; simp_all
  obtain ⟨rfl, rfl⟩ := trodVars_none hV
  have lt0 : ∀ x ∈ p0, x.block < W.heap.size := by obtain ⟨m, hm⟩ := h0; exact DataW.trod_lt m _ _ _ hm
  have k0 := h0
  have hv0 := hval 0 25 v0 rfl rfl
  clear hval
  obtain ⟨cs0, rfl, hcs0⟩ := okWide_struct Try.underlying25 hv0
  obtain ⟨⟨l0, l1⟩, hK0, hG0⟩ := opensTable.arg hsz (j := 0) (t := 25) rfl rfl h0
  obtain ⟨x0, x1, hcs, ⟨A0, c0, rfl, hc0, hr0⟩, ⟨A1, c1, rfl, hc1, hr1⟩⟩ := hK0
  obtain rfl : cs0 = #[.slice A0 l0.length c0, .slice A1 l1.length c1] := by cases cs0; simpa [Value.cells] using hcs
  clear hA0 hval0 hsz0 hsz
  refine (tableEncodes_any A0 c0 l0 A1 c1 l1 W hr0 hc0 hr1 hc1 (by have := hG0.1.1; simp only at this; omega) (by have := hG0.2.1; simp only at this; omega) (fun x hx => by have := hG0.1.2 x hx; omega) (fun x hx => by have := hG0.2.2 x hx; omega)).mono fun e W' ⟨he, bel⟩ => ?_
  subst he
  exact ⟨_, rfl, _, _, _, [], _, [], hW', trodAll_mk1 (shut_bool Try.underlying4 _), (trodAll_cons_mk (Below.trod laidOut (by kernel_rfl) (of_decide_eq_true (by kernel_rfl)) k0 bel lt0) trodAll_mk0), rfl, bel.frame _, fun h => by cases h⟩
theorem over : Rows.tableEncodesRow.holds Try.pinned (OpenSpec.ofChange Rows.tableEncodesSpec) :=
  OpenClaim.holds_of_wide 6 Try.f6 rfl rfl rfl rfl rfl rfl rfl ⟨rfl, rfl, rfl, rfl, rfl⟩ rfl rfl rfl rfl rfl (by kernel_rfl) Try.func6 (by kernel_rfl)
    (of_decide_eq_true (by kernel_rfl)) (by unfold Func.isWrapper; first | (rw [if_pos (by decide +kernel)]; kernel_rfl) | (rw [if_neg (by decide +kernel)]; exact ⟨rfl, rfl⟩))
    (fun os started H enc _ => lifted os started H enc)
end Go.Proofs.Ytcijanmckhlpiaa.tableEncodes
namespace Go.Proofs.Ytcijanmckhlpiaa
theorem tableEncodes_holds : Rows.TableEncodesSaid := tableEncodes.over
#print axioms tableEncodes_holds
end Go.Proofs.Ytcijanmckhlpiaa
