/- For all paint lines and all lists of nodes, PaintSpares returns true: two answers of Spans share nothing, spare room too: each list of four may be written over and made longer without the others turning, and what is answered hangs on what is told alone; a program that paints nothing is told first; the arguments read behind the call as they read before.
   Conditions: those of the given row alone: what is read is of bulk at most 1048576. -/
import Derived.Test.YtcijanmckhlpiaaRows
import Derived.Test.YtcijanmckhlpiaaPaintSparesLaw
import Derived.Test.YtcijanmckhlpiaaOpensNode
import Derived.WalkKit
import Derived.ProofKit
import Derived.OpenShut
import Derived.ShutString
import Derived.ChangeOld
import Derived.Below
import Derived.SizedLaws
import Derived.JoinedCond
import Derived.Deep.CondSized
namespace Go.Proofs.Ytcijanmckhlpiaa.paintSpares
open Go.ChangeShapes Go.WideShapes Go.ChangeAt Go.RowKit
open Go.ChangeMaps (open_string shut_string)
open Go.Proofs.YtcijanmckhlpiaaW.PrintWords Go.Proofs.Ytcijanmckhlpiaa.PPaintClasses
set_option linter.unusedVariables false
set_option linter.unusedSimpArgs false
theorem own : ownKnob Try.prog.godebug = none := by kernel_rfl
theorem laidOut : laidOutB Try.prog = true := by kernel_rfl
set_option maxRecDepth 100000 in
set_option maxHeartbeats 1600000 in
theorem lifted (os : Os) (started : os.Started) (H : Type) (enc : TypeId × Value → H) (F0 : Stop.Interp) :
    ReturnsInHanded {} Try.checked os 9 .any ((Rows.OpenSpec.upto Rows.paintSparesSpec).pre6 enc Try.prog Try.f9 Rows.paintSparesUptoRow.domain false) (((Rows.OpenSpec.upto Rows.paintSparesSpec).at F0).post enc Try.prog Try.f9 false true false false) := by
  refine returnsInHanded_of_cond_sized (C := Try.checked) (s := (Rows.OpenSpec.upto Rows.paintSparesSpec)) (k := Rows.uptoSmall) rfl own started (by kernel_rfl) Try.func9
    (OpenSpec.witness (enc := enc) (C := Try.checked) (s := (Rows.OpenSpec.upto Rows.paintSparesSpec)) (k := Rows.uptoSmall) rfl false ⟨#[], #[.slice none 0 0, .slice none 0 0], []⟩ 8 (by kernel_rfl) (by kernel_rfl) (by kernel_rfl) (x := ([.nil, .nil], [], [])) (by kernel_rfl) (by kernel_rfl) (by kernel_rfl)) ?_
  intro W base args ds gs before hval0 hW hcnd hkk hsz0 _
  have hsz : (DataW.weightsEach Try.prog (Try.f9.params.toList ++ Rows.paintSparesSpec.plain.varTypes Try.prog) (ds ++ gs)).all (· ≤ reachBytes) = true := hsz0
  have hval : ∀ (j : Nat) t v, Try.f9.params[j]? = some t → args[j]? = some v → Value.okWide Try.prog W .any base t v := hval0
  have hW' := hW
  obtain ⟨p, q, hA0, hV, rfl, hfz, hnd⟩ := hW
  have hA : DataW.TrodAll enc Try.prog W 0 (fun _ => true) true Try.f9.params.toList args.toList ds p := hA0
  rw [Try.params9] at hA hval hsz
  obtain ⟨v0, vs0, d0, ds0, p0, q0, hargs, rfl, rfl, h0, r0⟩ := trodAll_cons hA
  obtain ⟨v1, vs1, d1, ds1, p1, q1, rfl, rfl, rfl, h1, r1⟩ := trodAll_cons r0
  obtain ⟨rfl, rfl, rfl⟩ := trodAll_nil r1
  obtain rfl : args = #[v0, v1] := by cases args; simp_all
  obtain ⟨rfl, rfl⟩ := trodVars_none hV
  have lt0 : ∀ x ∈ p0, x.block < W.heap.size := by obtain ⟨m, hm⟩ := h0; exact DataW.trod_lt m _ _ _ hm
  have k0 := h0
  have lt1 : ∀ x ∈ p1, x.block < W.heap.size := by obtain ⟨m, hm⟩ := h1; exact DataW.trod_lt m _ _ _ hm
  have k1 := h1
  have hv0 := hval 0 44 v0 rfl rfl
  have hv1 := hval 1 45 v1 rfl rfl
  clear hval
  obtain ⟨a0, len0, cap0, rfl⟩ := okWide_slice Try.underlying44 hv0
  obtain ⟨l0, hK0, hG0⟩ := opensPaints.arg hsz (j := 0) (t := 44) rfl rfl h0
  obtain ⟨A0, c0, e0, hc0, hr0⟩ := hK0
  obtain ⟨rfl, rfl, rfl⟩ : a0 = A0 ∧ len0 = l0.length ∧ cap0 = c0 := by simpa [Value.cells] using e0
  have hb0 : l0.length ≤ 1048576 := Nat.le_trans (bulk_slice Try.underlying44 h0) (Nat.le_trans (bulk_mem _ _ (by simp)) (of_decide_eq_true hkk))
  obtain ⟨a1, len1, cap1, rfl⟩ := okWide_slice Try.underlying45 hv1
  obtain ⟨l1, hK1, hG1⟩ := opensNodesAll.arg hsz (j := 1) (t := 45) rfl rfl h1
  obtain ⟨A1, c1, e1, hc1, hr1⟩ := hK1
  obtain ⟨rfl, rfl, rfl⟩ : a1 = A1 ∧ len1 = l1.length ∧ cap1 = c1 := by simpa [Value.cells] using e1
  have hb1 : l1.length ≤ 1048576 := Nat.le_trans (bulk_slice Try.underlying45 h1) (Nat.le_trans (bulk_mem _ _ (by simp)) (of_decide_eq_true hkk))
  clear hA0 hval0 hsz0 hsz
  refine (Paint.paintSpares_any a0 cap0 l0 a1 cap1 l1 W hr0 hc0 hb0 hr1 hc1 hb1 (fun x hx => by have := (hG0.2 x hx).1; simp only [maxLen]; omega) (fun x hx => ⟨(hG1.2 x hx).name, (bounds_i64 (hG1.2 x hx).kids).2, (hG1.2 x hx).from_, (hG1.2 x hx).to_⟩)).mono fun e W' ⟨he, bel⟩ => ?_
  subst he
  exact ⟨_, rfl, _, _, _, [], _, [], hW', trodAll_mk1 (shut_bool Try.underlying4 _), (trodAll_cons_mk (Below.trod laidOut (by kernel_rfl) (of_decide_eq_true (by kernel_rfl)) k0 bel lt0) (trodAll_cons_mk (Below.trod laidOut (by kernel_rfl) (of_decide_eq_true (by kernel_rfl)) k1 bel lt1) trodAll_mk0)), rfl, bel.frame _, fun h => by cases h⟩
theorem over : Rows.paintSparesUptoRow.holds Try.pinned (Rows.OpenSpec.upto Rows.paintSparesSpec) :=
  OpenClaim.holds_of_cond 9 Try.f9 rfl rfl rfl rfl rfl rfl rfl ⟨rfl, rfl, rfl, rfl, rfl⟩ rfl rfl rfl rfl rfl (by kernel_rfl) Try.func9 (by kernel_rfl)
    (of_decide_eq_true (by kernel_rfl)) (by unfold Func.isWrapper; first | (rw [if_pos (by decide +kernel)]; kernel_rfl) | (rw [if_neg (by decide +kernel)]; exact ⟨rfl, rfl⟩))
    (fun os started H enc _ F0 => lifted os started H enc F0)
end Go.Proofs.Ytcijanmckhlpiaa.paintSpares
namespace Go.Proofs.Ytcijanmckhlpiaa
theorem paintSpares_upto : Rows.PaintSparesUptoSaid := paintSpares.over
#print axioms paintSpares_upto
end Go.Proofs.Ytcijanmckhlpiaa
