/- For every entry's places and every flaw, GrammarPlaces returns true: Place of the program names the spot that the document names, on copies with marked spare room that it leaves as they were, and again when the copies are written over; the arguments read behind the call as they read before.
   Conditions: those of the given row alone (each slice that is read takes at most 2^47 - 4096 bytes). -/
import Derived.Test.YtcijanmckhlpiaaRows
import Derived.Test.YtcijanmckhlpiaaPlaceLaw
import Derived.Test.YtcijanmckhlpiaaOpensPlace
import Derived.WalkKit
import Derived.ProofKit
import Derived.OpenShut
import Derived.ShutString
import Derived.ChangeOld
import Derived.Below
import Derived.SizedLaws
namespace Go.Proofs.Ytcijanmckhlpiaa.grammarPlaces
open Go.ChangeShapes Go.WideShapes Go.ChangeAt Go.RowKit
open Go.ChangeMaps (open_string shut_string)
open Go.Proofs.YtcijanmckhlpiaaW.PrintWords Go.Proofs.Ytcijanmckhlpiaa.PGrammarPlaces
set_option linter.unusedVariables false
set_option linter.unusedSimpArgs false
theorem own : ownKnob Try.prog.godebug = none := by kernel_rfl
theorem laidOut : laidOutB Try.prog = true := by kernel_rfl
set_option maxRecDepth 100000 in
theorem lifted (os : Os) (started : os.Started) (H : Type) (enc : TypeId × Value → H) :
    ReturnsInHanded {} Try.checked os 4 .any (Rows.grammarPlacesSpec.pre6 enc Try.prog Try.f4 Rows.grammarPlacesRow.domain false) (Rows.grammarPlacesSpec.post enc Try.prog Try.f4 false true false false) := by
  refine returnsInHanded_of_change_sized (C := Try.checked) own started (by kernel_rfl) Try.func4
    (ChangeSpec.witness6 (enc := enc) (C := Try.checked) false ⟨#[], #[.agg #[.slice none 0 0, .slice none 0 0, .slice none 0 0, .slice none 0 0, .slice none 0 0, .slice none 0 0, .slice none 0 0, .slice none 0 0, .slice none 0 0], .agg #[.int .i64 0, .int .i64 0, .int .i64 0, .int .i64 0]], []⟩ 8 (by kernel_rfl) (by kernel_rfl) (by kernel_rfl) (by kernel_rfl)) ?_
  intro W base args ds gs before hval0 hW hcnd hsz0 _
  have hsz : (DataW.weightsEach Try.prog (Try.f4.params.toList ++ Rows.grammarPlacesSpec.plain.varTypes Try.prog) (ds ++ gs)).all (· ≤ reachBytes) = true := hsz0
  have hval : ∀ (j : Nat) t v, Try.f4.params[j]? = some t → args[j]? = some v → Value.okWide Try.prog W .any base t v := hval0
  have hW' := hW
  obtain ⟨p, q, hA0, hV, rfl, hfz, hnd⟩ := hW
  have hA : DataW.TrodAll enc Try.prog W 0 (fun _ => true) true Try.f4.params.toList args.toList ds p := hA0
  rw [Try.params4] at hA hval hsz
  obtain ⟨v0, vs0, d0, ds0, p0, q0, hargs, rfl, rfl, h0, r0⟩ := trodAll_cons hA
  obtain ⟨v1, vs1, d1, ds1, p1, q1, rfl, rfl, rfl, h1, r1⟩ := trodAll_cons r0
  obtain ⟨rfl, rfl, rfl⟩ := trodAll_nil r1
  obtain rfl : args = #[v0, v1] := by cases args; simp_all
  obtain ⟨rfl, rfl⟩ := trodVars_none hV
  have lt0 : ∀ x ∈ p0, x.block < W.heap.size := by obtain ⟨m, hm⟩ := h0; exact DataW.trod_lt m _ _ _ hm
  have k0 := h0
  have lt1 : ∀ x ∈ p1, x.block < W.heap.size := by obtain ⟨m, hm⟩ := h1; exact DataW.trod_lt m _ _ _ hm
  have k1 := h1
  have hv0 := hval 0 35 v0 rfl rfl
  have hv1 := hval 1 39 v1 rfl rfl
  clear hval
  obtain ⟨cs0, rfl, hcs0⟩ := okWide_struct Try.underlying35 hv0
  obtain ⟨⟨l0, ⟨l1, ⟨l2, ⟨l3, ⟨l4, ⟨l5, ⟨l6, ⟨l7, l8⟩⟩⟩⟩⟩⟩⟩⟩, hK0, hG0⟩ := opensSpots.arg hsz (j := 0) (t := 35) rfl rfl h0
  obtain ⟨x0, y0, e0, ⟨A0, c0, rfl, hc0, hr0⟩, ⟨x1, y1, e1, ⟨A1, c1, rfl, hc1, hr1⟩, ⟨x2, y2, e2, ⟨A2, c2, rfl, hc2, hr2⟩, ⟨x3, y3, e3, ⟨A3, c3, rfl, hc3, hr3⟩, ⟨x4, y4, e4, ⟨A4, c4, rfl, hc4, hr4⟩, ⟨x5, y5, e5, ⟨A5, c5, rfl, hc5, hr5⟩, ⟨x6, y6, e6, ⟨A6, c6, rfl, hc6, hr6⟩, ⟨x7, y7, e7, ⟨A7, c7, rfl, hc7, hr7⟩, ⟨A8, c8, rfl, hc8, hr8⟩⟩⟩⟩⟩⟩⟩⟩⟩ := hK0
  obtain ⟨hG0, ⟨hG1, ⟨hG2, ⟨hG3, ⟨hG4, ⟨hG5, ⟨hG6, ⟨hG7, hG8⟩⟩⟩⟩⟩⟩⟩⟩ := hG0
  subst e1 e2 e3 e4 e5 e6 e7
  obtain rfl : cs0 = #[.slice A0 l0.length c0, .slice A1 l1.length c1, .slice A2 l2.length c2, .slice A3 l3.length c3, .slice A4 l4.length c4, .slice A5 l5.length c5, .slice A6 l6.length c6, .slice A7 l7.length c7, .slice A8 l8.length c8] := by cases cs0; simpa [Value.cells] using e0
  obtain ⟨cs1, rfl, hcs1⟩ := okWide_struct Try.underlying39 hv1
  obtain ⟨⟨f0, f1, f2, f3⟩, hK1, _⟩ := opensFlaw.arg hsz (j := 1) (t := 39) rfl rfl h1
  obtain ⟨u0, w0, g0, rfl, ⟨u1, w1, rfl, rfl, ⟨u2, w2, rfl, rfl, rfl⟩⟩⟩ := hK1
  obtain rfl : cs1 = #[.int .i64 f0, .int .i64 f1, .int .i64 f2, .int .i64 f3] := by cases cs1; simpa [Value.cells] using g0
  clear hA0 hval0 hsz0 hsz
  refine (grammarPlaces_any A0 c0 l0 A1 c1 l1 A2 c2 l2 A3 c3 l3 A4 c4 l4 A5 c5 l5 A6 c6 l6 A7 c7 l7 A8 c8 l8 f0 f1 f2 f3 W hr0 hc0 (by have := (show l0.length * 8 ≤ 140737488351232 from hG0); omega) hr1 hc1 (by have := (show l1.length * 8 ≤ 140737488351232 from hG1); omega) hr2 hc2 (by have := (show l2.length * 8 ≤ 140737488351232 from hG2); omega) hr3 hc3 (by have := (show l3.length * 8 ≤ 140737488351232 from hG3); omega) hr4 hc4 (by have := (show l4.length * 8 ≤ 140737488351232 from hG4); omega) hr5 hc5 (by have := (show l5.length * 8 ≤ 140737488351232 from hG5); omega) hr6 hc6 (by have := (show l6.length * 8 ≤ 140737488351232 from hG6); omega) hr7 hc7 (by have := (show l7.length * 8 ≤ 140737488351232 from hG7); omega) hr8 hc8 (by have := (show l8.length * 24 ≤ 140737488351232 from hG8.1); omega) (fun x hx => by have := (show x.length * 8 ≤ 140737488351232 from hG8.2 x hx); omega)).mono fun e W' ⟨he, bel⟩ => ?_
  subst he
  exact ⟨_, rfl, _, _, _, [], _, [], hW', trodAll_mk1 (shut_bool Try.underlying4 _), (trodAll_cons_mk (Below.trod laidOut (by kernel_rfl) (of_decide_eq_true (by kernel_rfl)) k0 bel lt0) (trodAll_cons_mk (Below.trod laidOut (by kernel_rfl) (of_decide_eq_true (by kernel_rfl)) k1 bel lt1) trodAll_mk0)), rfl, bel.frame _, fun h => by cases h⟩
theorem over : Rows.grammarPlacesRow.holds Try.pinned (OpenSpec.ofChange Rows.grammarPlacesSpec) :=
  OpenClaim.holds_of_wide 4 Try.f4 rfl rfl rfl rfl rfl rfl rfl ⟨rfl, rfl, rfl, rfl, rfl⟩ rfl rfl rfl rfl rfl (by kernel_rfl) Try.func4 (by kernel_rfl)
    (of_decide_eq_true (by kernel_rfl)) (by unfold Func.isWrapper; first | (rw [if_pos (by decide +kernel)]; kernel_rfl) | (rw [if_neg (by decide +kernel)]; exact ⟨rfl, rfl⟩))
    (fun os started H enc _ => lifted os started H enc)
end Go.Proofs.Ytcijanmckhlpiaa.grammarPlaces
namespace Go.Proofs.Ytcijanmckhlpiaa
theorem grammarPlaces_holds : Rows.GrammarPlacesSaid := grammarPlaces.over
#print axioms grammarPlaces_holds
end Go.Proofs.Ytcijanmckhlpiaa
