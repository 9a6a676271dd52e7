/- The law trellislaw13.TableBuilds returns true for every grammar, a right one or not: Build of a copy with marked places behind the end of each list answers as the document's Build of the grammar, table and code and place; the copy is afterwards as it was, the marks too; the grammar reads as before.
  Conditions: those of the given row alone: what is read is of bulk at most 1048576; the package variables math/bits.deBruijn32tab, math/bits.deBruijn64tab, internal/strconv.uint64pow10 and errors.errorType are listed and tied to the program's text (pruned copy of the module: PRUNED.txt of the seat). -/
import Derived.Test.YtcijanmckhlpiaaDoorSq7
import Derived.Test.YtcijanmckhlpiaaDoorSq21
import Derived.Test.YtcijanmckhlpiaaDoorRows
import Derived.Test.YtcijanmckhlpiaaDoorCards
import Derived.Test.YtcijanmckhlpiaaDoorTie
import Derived.Stop.Joined
import Derived.SevenTiedAt
namespace Go.Proofs.YtcijanmckhlpiaaDoor.tableBuilds
open Go.ChangeShapes Go.WideShapes Go.ChangeAt Go.RowKit
open Go.ChangeMaps (open_string shut_string)
open Go.Proofs.YtcijanmckhlpiaaDoorW.PrintWords
set_option linter.unusedVariables false
set_option linter.unusedSimpArgs false
theorem own : ownKnob Tryd.prog.godebug = none := by kernel_rfl
theorem laidOut : laidOutB Tryd.prog = true := by kernel_rfl
def args0 : Array Value := #[.agg #[.slice none 0 0, .slice none 0 0, .slice none 0 0]]
theorem laid_met (os : Os) : laidMetH Tryd.prog Rows.tableBuildsUptoRow.laid ((Laid4.laidWorld os).forCall (fun _ _ => 0) ⟨#[], args0, []⟩).memory :=
 Laid4.parts os args0 (laidMet_of_run' 8 (by kernel_rfl) (by kernel_rfl)) (by kernel_rfl)
theorem reads (os : Os) {H : Type} (enc : TypeId × Value → H) : ∃ places, DataW.whole enc Tryd.prog ((Laid4.laidWorld os).forCall (fun _ _ => 0) ⟨#[], args0, []⟩).memory Tryd.f5.params.toList Rows.tableBuildsSpec.vars false args0.toList 8 = some ([.agg [.nil, .nil, .nil]], [], places) :=
 ⟨[], by kernel_rfl⟩
set_option maxRecDepth 100000 in
set_option maxHeartbeats 1600000 in
theorem lifted (os : Os) (started : os.Started) (H : Type) (enc : TypeId × Value → H) (F0 : Stop.Interp) :
  ReturnsInHanded {} Tryd.checked os 5 .any ((Rows.OpenSpec.upto Rows.tableBuildsSpec).preRow enc Tryd.prog Tryd.f5 Rows.tableBuildsUptoRow.domain false Rows.tableBuildsUptoRow.laid) (((Rows.OpenSpec.upto Rows.tableBuildsSpec).at F0).post enc Tryd.prog Tryd.f5 false true false false) := by
 obtain ⟨places, hx⟩ := reads os enc; refine returnsInHanded_of_row (C := Tryd.checked) (s := Rows.OpenSpec.upto Rows.tableBuildsSpec) own started (by kernel_rfl) Tryd.func5
  (witness_row_at (enc := enc) (C := Tryd.checked) false (Laid4.laidWorld os) args0 rfl (by kernel_rfl) (by kernel_rfl) (by kernel_rfl)
   (OpenSpec.preRow_of_cond 8 hx (by kernel_rfl) (fun k hk => by cases hk; kernel_rfl) (by kernel_rfl) (laid_met os))) ?_
 intro W base args ds gs before hval0 hW hcnd hkk0 hsz0 hL _ _; have hkk := hkk0 _ rfl; have hsz : (DataW.weightsEach Tryd.prog (Tryd.f5.params.toList ++ Rows.tableBuildsSpec.plain.varTypes Tryd.prog) (ds ++ gs)).all (· ≤ reachBytes) = true := hsz0; have hval : ∀ (j : Nat) t v, Tryd.f5.params[j]? = some t → args[j]? = some v → Value.okWide Tryd.prog W .any base t v := hval0; have hW' := hW; obtain ⟨p, q, hA0, hV, rfl, hfz, hnd⟩ := hW; have hA : DataW.TrodAll enc Tryd.prog W 0 (fun _ => true) true Tryd.f5.params.toList args.toList ds p := hA0
 rw [Tryd.params5] at hA hval hsz; obtain ⟨v0, vs0, d0, ds0, p0, q0, hargs, rfl, rfl, h0, r0⟩ := trodAll_cons hA; obtain ⟨rfl, rfl, rfl⟩ := trodAll_nil r0; obtain rfl : args = #[v0] := by cases args; simp_all
 obtain ⟨rfl, rfl⟩ := trodVars_none hV; have lt0 : ∀ x ∈ p0, x.block < W.heap.size := by obtain ⟨m, hm⟩ := h0; exact DataW.trod_lt m _ _ _ hm
 have k0 := h0; have hv0 := hval 0 51 v0 rfl rfl; clear hval; obtain ⟨cs0, rfl, hcs0⟩ := okWide_struct Tryd.underlying51 hv0; obtain ⟨⟨l0, l1, l2⟩, hK0, -, hbk⟩ := Gram.opensGram.arg hsz (j := 0) (t := 51) rfl rfl h0; obtain ⟨x0, x1, hcs, ⟨A0, c0, rfl, hc0, hr0⟩, ⟨x2, x3, rfl, ⟨A1, c1, rfl, hc1, hr1⟩, ⟨A2, c2, rfl, hc2, hr2⟩⟩⟩ := hK0; obtain rfl : cs0 = #[.slice A0 l0.length c0, .slice A1 l1.length c1, .slice A2 l2.length c2] := by cases cs0; simpa [Value.cells] using hcs
 have hb0 : l0.length * 3 + l1.length * 3 + 3 * Bld.dots l2 ≤ 1048576 := by
  have h1 : l0.length * 3 + l1.length * 3 + 3 * Bld.dots l2 ≤ Rows.uptoBulk d0 := hbk; have h2 : Rows.uptoBulk d0 ≤ Rows.uptoBulkAll [d0] := Gram.bulk_mem _ _ (by simp)
  have h3 : Rows.uptoBulkAll [d0] ≤ 1048576 := of_decide_eq_true hkk; omega
 clear hA0 hval0 hsz0 hsz; refine (Rm.tableBuilds_any A0 c0 l0 A1 c1 l1 A2 c2 l2 W ⟨hr0, hc0, hr1, hc1, hr2, hc2⟩ (by omega) (by omega) (by omega) (Laid4.tab64 hL) (Laid4.errType hL)).mono fun e W' ⟨he, bel⟩ => ?_
 subst he; exact ⟨_, rfl, _, _, _, [], _, [], hW', trodAll_mk1 (shut_bool Tryd.underlying4 _), (trodAll_cons_mk (Below.trod laidOut (by kernel_rfl) (of_decide_eq_true (by kernel_rfl)) k0 bel lt0) trodAll_mk0), rfl, bel.frame _, fun h => by cases h⟩
theorem over : Rows.tableBuildsUptoRow.holds Tryd.pinned (Rows.OpenSpec.upto Rows.tableBuildsSpec) :=
 OpenClaim.holds_of_cond 5 Tryd.f5 rfl rfl rfl rfl rfl rfl rfl ⟨rfl, rfl, rfl, rfl, rfl⟩ rfl rfl rfl rfl rfl (by kernel_rfl) Tryd.func5 (by kernel_rfl)
  (of_decide_eq_true (by kernel_rfl)) (by unfold Func.isWrapper; first | (rw [if_pos (by decide +kernel)]; kernel_rfl) | (rw [if_neg (by decide +kernel)]; exact ⟨rfl, rfl⟩))
  (fun os started H enc _ F0 => by rw [OpenClaim.pre_eq_preRow]; exact lifted os started H enc F0)
end Go.Proofs.YtcijanmckhlpiaaDoor.tableBuilds
namespace Go.Proofs.YtcijanmckhlpiaaDoor
theorem tableBuilds_upto : Rows.TableBuildsUptoSaid := tableBuilds.over
theorem tableBuildsUptoCard_holds : Rows.TableBuildsUptoCardSaid :=
 Claim7.holds_tied_plain_at .later [] [.data, .data, .data, .handle] true (true, "539cf754aeabea6d92a62c6d92c7a3befaf14702da63bda75f9ce22f957cc4af") true
  tableBuilds_upto (fun _ h => by cases h) (by kernel_rfl) (fun _ h => by cases h) tableBuildsUpto_row_tie rfl ⟨rfl, rfl⟩ (by kernel_rfl) rfl
  (fun f fn hf hfn => by
   obtain rfl : f = 5 := Option.some.inj ((show Tryd.prog.funcNamed "trellis/trellislaw13.TableBuilds" = some 5 by kernel_rfl).symm.trans hf) |>.symm
   obtain rfl : fn = Tryd.f5 := (Option.some.inj (Tryd.func5.symm.trans hfn)).symm; exact ⟨by kernel_rfl, fun j t ht => by
    rw [Tryd.params5] at ht; have hm : t ∈ [51] := by simpa using Array.mem_of_getElem? ht
    have hall : ([51].all fun u => !Tryd.prog.wantsStandIn u) = true := by kernel_rfl
    exact (show Tryd.prog.wantsStandIn t = false by simpa using List.all_eq_true.1 hall t hm)⟩)
  (by kernel_rfl)
#print axioms tableBuildsUptoCard_holds
end Go.Proofs.YtcijanmckhlpiaaDoor
