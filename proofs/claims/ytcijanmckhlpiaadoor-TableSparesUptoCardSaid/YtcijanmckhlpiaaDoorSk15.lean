-- Texts of this seat, cut to what is used and merged (by shake.py).
import Derived.Test.YtcijanmckhlpiaaDoorSk0
import Derived.Test.YtcijanmckhlpiaaDoorSk1
import Derived.Test.YtcijanmckhlpiaaDoorSk4
import Derived.Test.YtcijanmckhlpiaaDoorSk12
import Derived.Test.YtcijanmckhlpiaaDoorSk13
import Derived.Test.YtcijanmckhlpiaaDoorSk14
import Derived.Test.YtcijanmckhlpiaaDoorProg
import Derived.WalkKit
import Derived.Laws.BitsAllLaws
import Derived.Laws.Bits128
import Derived.Deep.QuietTactic
import Derived.BigQuiet
import Derived.Lib.Hide
import Derived.Lib.VarintBits
set_option linter.unusedVariables false
set_option linter.unusedSimpArgs false
namespace Go.Proofs.YtcijanmckhlpiaaDoor.PTableBuilds
open Go.RowKit Go.Proofs.YtcijanmckhlpiaaDoorW.PrintWords Go.Proofs.YtcijanmckhlpiaaDoorW.PrintLast Go.Proofs.YtcijanmckhlpiaaDoorW.PrintMore
attribute [local go_sem] max2_int min2_int max_two min_two max_three min_three max_four min_four
def trellislaw13_twinGram.l0 : Nat → Int → List (S112) → List (S115) → List (S77) → List (S112) → List (S115) → List (S77) → Option ((List (S112)) × (List (S115)) × (List (S77)))
 | 0, _, _, _, _, _, _, _ => none
 | k + 1, x4, x118000, x118001, x118002, x120000, x120001, x120002 => if x4 < (x118002.length : Int) then ((some (([] : List (S110)) : List (S110))).bind fun y132 => (if 0 ≤ x4 then (if y132.length + ((zao x118002 x4).f1).length < 3518437208883 then (if x120002.length < 4398046511104 then (trellislaw13_twinGram.l0 k (wrap64 (x4 + 1)) x118000 x118001 x118002 x120000 x120001 (x120002 ++ [(⟨(zao x118002 x4).f0, (y132 ++ ((zao x118002 x4).f1))⟩ : S77)])) else (none)) else (none)) else (none))) else (some (x120000, x120001, x120002))
def trellislaw13_twinGram.f (k : Nat) (l0_0 : List (S112)) (l0_1 : List (S115)) (l0_2 : List (S77)) : Option ((List (S112)) × (List (S115)) × (List (S77))) := (some (([] : List (S112)) : List (S112))).bind fun y120 => (if y120.length + l0_0.length < 5864062014805 then ((some (([] : List (S115)) : List (S115))).bind fun y126 => (if y126.length + l0_1.length < 5864062014805 then (trellislaw13_twinGram.l0 k 0 l0_0 l0_1 l0_2 (y120 ++ l0_0) (y126 ++ l0_1) ([] : List (S77))) else (none))) else (none))
def trellislaw13_twinGram.T8 : Bool × List (List Nat × List Nat) := (true, [([], []), ([0], [0]), ([], []), ([2], [2]), ([], []), ([3, 4], [3, 4]), ([5], [5]), ([6], [6]), ([], []), ([7, 8], [7, 8]), ([9], [9]), ([1, 10], [1, 10]), ([0, 1, 2, 3, 4, 5, 6, 7, 8, 9, 10, 11], []), ([12, 11, 11, 0, 1, 2, 3, 4, 5, 6, 7, 8, 9, 10, 11], [11, 12])])
def trellislaw13_twinGram.B8 : List Nat := [0, 1, 0, 4, 0, 28, 60, 124, 0, 508, 1020, 2047, 4095, 8191]
theorem trellislaw13_twinGram.tab8 : rtab .any (opsOf Tryd.f28 8) = trellislaw13_twinGram.T8 := by kernel_rfl
theorem trellislaw13_twinGram.bits8 : waitsOk trellislaw13_twinGram.T8.2 trellislaw13_twinGram.B8 = true := by kernel_rfl
set_option maxHeartbeats 8000000 in
set_option maxRecDepth 100000 in
theorem trellislaw13_twinGram.calls (k : Nat) (A0_0 : Option Addr) (c0_0 : Nat) (l0_0 : List (S112)) (A0_1 : Option Addr) (c0_1 : Nat) (l0_1 : List (S115)) (A0_2 : Option Addr) (c0_2 : Nat) (l0_2 : List (S77)) (r1 : List (S112)) (r2 : List (S115)) (r3 : List (S77)) (w : World) (hr0_0 : Kd.C k112 w A0_0 l0_0.length l0_0) (hc0_0 : l0_0.length ≤ c0_0) (hr0_1 : Kd.C k115 w A0_1 l0_1.length l0_1) (hc0_1 : l0_1.length ≤ c0_1) (hr0_2 : Kd.C k77 w A0_2 l0_2.length l0_2) (hc0_2 : l0_2.length ≤ c0_2) (h : trellislaw13_twinGram.f k l0_0 l0_1 l0_2 = some (r1, r2, r3)) :
  Calls Tryd.prog 28 #[.agg #[.slice A0_0 l0_0.length c0_0, .slice A0_1 l0_1.length c0_1, .slice A0_2 l0_2.length c0_2]] w fun e w' => ∃ v0_ v1_ v2_ : Value, e = .returned (.agg #[v0_, v1_, v2_]) ∧ Kd.R k112 112 w' w.heap.size (fun _ => True) v0_ r1 ∧ Kd.R k115 115 w' w.heap.size (fun _ => True) v1_ r2 ∧ Kd.S k77 77 w' w.heap.size (fun _ => True) v2_ r3 ∧ Below w.heap.size w w' := by
 have hu51 := Tryd.underlying51; have hu77 := Tryd.underlying77; have HR0_0 := zaf.mk hr0_0; have HC0_0 := zaf.mk hc0_0; clear hr0_0 hc0_0; have HR0_1 := zaf.mk hr0_1; have HC0_1 := zaf.mk hc0_1; clear hr0_1 hc0_1; have HR0_2 := zaf.mk hr0_2; have HC0_2 := zaf.mk hc0_2; clear hr0_2 hc0_2; have HB := zaf.mk (Below.refl w.heap.size w); have H : ((some (([] : List (S112)) : List (S112))).bind fun y120 => (if y120.length + l0_0.length < 5864062014805 then ((some (([] : List (S115)) : List (S115))).bind fun y126 => (if y126.length + l0_1.length < 5864062014805 then (trellislaw13_twinGram.l0 k 0 l0_0 l0_1 l0_2 (y120 ++ l0_0) (y126 ++ l0_1) ([] : List (S77))) else (none))) else (none))) = some (r1, r2, r3) := h
 clear h; obtain ⟨y120, hy120⟩ : ∃ y_ : List (S112), y_ = (([] : List (S112))) := ⟨_, rfl⟩; replace H : (if y120.length + l0_0.length < 5864062014805 then ((some (([] : List (S115)) : List (S115))).bind fun y126 => (if y126.length + l0_1.length < 5864062014805 then (trellislaw13_twinGram.l0 k 0 l0_0 l0_1 l0_2 (y120 ++ l0_0) (y126 ++ l0_1) ([] : List (S77))) else (none))) else (none)) = some (r1, r2, r3) := by first | (rw [hy120]; with_reducible exact H) | (have H2_ := (Option.bind_some _ _).symm.trans H; rw [hy120]; with_reducible exact H2_) | (have H2_ := (Option.bind_some _ _).symm.trans H; with_reducible exact H2_) | with_reducible exact H | (rw [hy120]; exact H) | exact H
 have Ny120 := zaf.mk hy120; clear hy120; by_cases c2 : y120.length + l0_0.length < 5864062014805
 ·rw [if_pos c2] at H; have LMc2 := zaf.mk c2; clear c2; obtain ⟨y123, hy123⟩ : ∃ y_ : List (S112), y_ = (y120 ++ l0_0) := ⟨_, rfl⟩; replace H : ((some (([] : List (S115)) : List (S115))).bind fun y126 => (if y126.length + l0_1.length < 5864062014805 then (trellislaw13_twinGram.l0 k 0 l0_0 l0_1 l0_2 y123 (y126 ++ l0_1) ([] : List (S77))) else (none))) = some (r1, r2, r3) := by first | (rw [hy123]; with_reducible exact H) | (have H2_ := (Option.bind_some _ _).symm.trans H; rw [hy123]; with_reducible exact H2_) | (have H2_ := (Option.bind_some _ _).symm.trans H; with_reducible exact H2_) | with_reducible exact H | (rw [hy123]; exact H) | exact H
  have Ny123 := zaf.mk hy123; clear hy123; obtain ⟨y126, hy126⟩ : ∃ y_ : List (S115), y_ = (([] : List (S115))) := ⟨_, rfl⟩; replace H : (if y126.length + l0_1.length < 5864062014805 then (trellislaw13_twinGram.l0 k 0 l0_0 l0_1 l0_2 y123 (y126 ++ l0_1) ([] : List (S77))) else (none)) = some (r1, r2, r3) := by first | (rw [hy126]; with_reducible exact H) | (have H2_ := (Option.bind_some _ _).symm.trans H; rw [hy126]; with_reducible exact H2_) | (have H2_ := (Option.bind_some _ _).symm.trans H; with_reducible exact H2_) | with_reducible exact H | (rw [hy126]; exact H) | exact H
  have Ny126 := zaf.mk hy126; clear hy126; by_cases c3 : y126.length + l0_1.length < 5864062014805
  ·rw [if_pos c3] at H; have LMc3 := zaf.mk c3; clear c3; obtain ⟨y129, hy129⟩ : ∃ y_ : List (S115), y_ = (y126 ++ l0_1) := ⟨_, rfl⟩; replace H : (trellislaw13_twinGram.l0 k 0 l0_0 l0_1 l0_2 y123 y129 ([] : List (S77))) = some (r1, r2, r3) := by first | (rw [hy129]; with_reducible exact H) | (have H2_ := (Option.bind_some _ _).symm.trans H; rw [hy129]; with_reducible exact H2_) | (have H2_ := (Option.bind_some _ _).symm.trans H; with_reducible exact H2_) | with_reducible exact H | (rw [hy129]; exact H) | exact H
   have Ny129 := zaf.mk hy129; clear hy129; have H' := zaf.mk H; clear H
   go_enter Tryd.func28, Tryd.ntmps28
   go_wp2_with (first | ((with_reducible refine zbb (N := 1) rfl ?_); refine zaz ?hg (N := 1) ?hd (cs := #[.slice A0_0 l0_0.length c0_0, .slice A0_1 l0_1.length c0_1, .slice A0_2 l0_2.length c0_2]) (t := 51) ?hr ?_; (case hd => rfl); (case hg => rfl); (case hr => first | (go_simp; done) | (go_simp; rfl)); intro gb117 hg w4 hbox hb; have n0_ := zaf.mk (zam (by repeat (first | (with_reducible first | exact HB.out | apply zab | apply zaa | apply zah) | exact HB.out)) hb); have n1_ := zaf.mk (hbox); have n2_ := zaf.mk ((by rw [hg]; exact (zan (by repeat (first | (with_reducible first | exact HB.out | apply zab | apply zaa | apply zah) | exact HB.out))) : w.heap.size ≤ gb117)); have n3_ := zaf.mk ((by rw [hg]; exact (zan (by repeat (first | (with_reducible first | exact HB.out | apply zab | apply zaa | apply zah) | exact HB.out))) : w.heap.size ≤ gb117)); clear HB; have HB := n0_; have BK117 := n1_; have GW117 := n2_; have GE117 := n3_; clear n0_ n1_ n2_ n3_; clear hb hbox hg) | ((with_reducible refine zbb (N := 2) rfl ?_); refine zaz ?hg (N := 2) ?hd (cs := #[.slice none 0 0, .slice none 0 0, .slice none 0 0]) (t := 51) ?hr ?_; (case hd => rfl); (case hg => rfl); (case hr => first | (go_simp; done) | (go_simp; rfl)); intro gb118 hg w5 hbox hb; have n0_ := zaf.mk (zal (g := gb117) (o := .cells #[.slice A0_0 l0_0.length c0_0, .slice A0_1 l0_1.length c0_1, .slice A0_2 l0_2.length c0_2] 51 (0, 0)) (by (with_reducible repeat (first | apply zai | apply zaj | apply zad)); exact BK117.out) hb); have n1_ := zaf.mk (zam (by repeat (first | (with_reducible first | exact HB.out | apply zab | apply zaa | apply zah | refine zae ?_ GE117.out) | exact HB.out)) hb); have n2_ := zaf.mk (hbox); have n3_ := zaf.mk ((by rw [hg]; exact (zan (by repeat (first | (with_reducible first | exact HB.out | apply zab | apply zaa | apply zah | refine zae ?_ GE117.out) | exact HB.out))) : w.heap.size ≤ gb118)); have n4_ := zaf.mk ((by rw [hg]; exact (zan (by repeat (first | (with_reducible first | exact HB.out | apply zab | apply zaa | apply zah | refine zae ?_ GE117.out) | exact HB.out))) : w.heap.size ≤ gb118)); have n5_ := zaf.mk ((by rw [hg]; exact Nat.ne_of_lt (zau (g := gb117) (o := .cells #[.slice A0_0 l0_0.length c0_0, .slice A0_1 l0_1.length c0_1, .slice A0_2 l0_2.length c0_2] 51 (0, 0)) (by (with_reducible repeat (first | apply zai | apply zaj | apply zad)); exact BK117.out)) : gb117 ≠ gb118)); have n6_ := zaf.mk ((by rw [hg]; exact Nat.ne_of_gt (zau (g := gb117) (o := .cells #[.slice A0_0 l0_0.length c0_0, .slice A0_1 l0_1.length c0_1, .slice A0_2 l0_2.length c0_2] 51 (0, 0)) (by (with_reducible repeat (first | apply zai | apply zaj | apply zad)); exact BK117.out)) : gb118 ≠ gb117)); clear BK117; clear HB; have BK117 := n0_; have HB := n1_; have BK118 := n2_; have GW118 := n3_; have GE118 := n4_; have NB117_118 := n5_; have NB118_117 := n6_; clear n0_ n1_ n2_ n3_ n4_ n5_ n6_; clear hb hbox hg) | ((with_reducible refine zbb (N := 3) rfl ?_); refine zaz ?hg (N := 3) ?hd (cs := #[.slice none 0 0, .slice none 0 0, .slice none 0 0]) (t := 51) ?hr ?_; (case hd => rfl); (case hg => rfl); (case hr => first | (go_simp; done) | (go_simp; rfl)); intro gb119 hg w6 hbox hb; have n0_ := zaf.mk (zal (g := gb117) (o := .cells #[.slice A0_0 l0_0.length c0_0, .slice A0_1 l0_1.length c0_1, .slice A0_2 l0_2.length c0_2] 51 (0, 0)) (by (with_reducible repeat (first | apply zai | apply zaj | apply zad)); exact BK117.out) hb); have n1_ := zaf.mk (zal (g := gb118) (o := .cells #[.slice none 0 0, .slice none 0 0, .slice none 0 0] 51 (0, 0)) (by (with_reducible repeat (first | apply zai | apply zaj | apply zad)); exact BK118.out) hb); have n2_ := zaf.mk (zam (by repeat (first | (with_reducible first | exact HB.out | apply zab | apply zaa | apply zah | refine zae ?_ GE117.out | refine zae ?_ GE118.out) | exact HB.out)) hb); have n3_ := zaf.mk (hbox); have n4_ := zaf.mk ((by rw [hg]; exact (zan (by repeat (first | (with_reducible first | exact HB.out | apply zab | apply zaa | apply zah | refine zae ?_ GE117.out | refine zae ?_ GE118.out) | exact HB.out))) : w.heap.size ≤ gb119)); have n5_ := zaf.mk ((by rw [hg]; exact (zan (by repeat (first | (with_reducible first | exact HB.out | apply zab | apply zaa | apply zah | refine zae ?_ GE117.out | refine zae ?_ GE118.out) | exact HB.out))) : w.heap.size ≤ gb119)); have n6_ := zaf.mk ((by rw [hg]; exact Nat.ne_of_lt (zau (g := gb117) (o := .cells #[.slice A0_0 l0_0.length c0_0, .slice A0_1 l0_1.length c0_1, .slice A0_2 l0_2.length c0_2] 51 (0, 0)) (by (with_reducible repeat (first | apply zai | apply zaj | apply zad)); exact BK117.out)) : gb117 ≠ gb119)); have n7_ := zaf.mk ((by rw [hg]; exact Nat.ne_of_gt (zau (g := gb117) (o := .cells #[.slice A0_0 l0_0.length c0_0, .slice A0_1 l0_1.length c0_1, .slice A0_2 l0_2.length c0_2] 51 (0, 0)) (by (with_reducible repeat (first | apply zai | apply zaj | apply zad)); exact BK117.out)) : gb119 ≠ gb117)); have n8_ := zaf.mk ((by rw [hg]; exact Nat.ne_of_lt (zau (g := gb118) (o := .cells #[.slice none 0 0, .slice none 0 0, .slice none 0 0] 51 (0, 0)) (by (with_reducible repeat (first | apply zai | apply zaj | apply zad)); exact BK118.out)) : gb118 ≠ gb119)); have n9_ := zaf.mk ((by rw [hg]; exact Nat.ne_of_gt (zau (g := gb118) (o := .cells #[.slice none 0 0, .slice none 0 0, .slice none 0 0] 51 (0, 0)) (by (with_reducible repeat (first | apply zai | apply zaj | apply zad)); exact BK118.out)) : gb119 ≠ gb118)); clear BK117; clear BK118; clear HB; have BK117 := n0_; have BK118 := n1_; have HB := n2_; have BK119 := n3_; have GW119 := n4_; have GE119 := n5_; have NB117_119 := n6_; have NB119_117 := n7_; have NB118_119 := n8_; have NB119_118 := n9_; clear n0_ n1_ n2_ n3_ n4_ n5_ n6_ n7_ n8_ n9_; clear hb hbox hg) | ((with_reducible refine zbb (N := 6) rfl ?_); refine Kd.R_lit k112 _ 112 ?hg (N := 6) ?hd (xs := ([] : List (S112))) (inner := []) (ok := fun _ => True) (okp := fun _ => True) ?hr ?hp (fun _ hk => hk) trivial (Below.refl _ _) (Nat.le_refl _) (by simp) ?_; (case hd => rfl); (case hg => rfl); (case hr => first | (go_simp; done) | (go_simp; rfl)); (case hp => exact (Reps.none _ _)); intro v121 w7 ho8 hb hg_ hnew_; clear hg_ hnew_; (first | rw [← Ny120.out] at ho8 | (simp only [Int.reduceToNat] at ho8; rw [← Ny120.out] at ho8)); have n0_ := zaf.mk (Kd.R_lower ho8 (zan (by repeat (first | (with_reducible first | exact HB.out | apply zab | apply zaa | apply zah | refine zae ?_ GE117.out | refine zae ?_ GE118.out | refine zae ?_ GE119.out) | exact HB.out)))); have n1_ := zaf.mk (zal (g := gb117) (o := .cells #[.slice A0_0 l0_0.length c0_0, .slice A0_1 l0_1.length c0_1, .slice A0_2 l0_2.length c0_2] 51 (0, 0)) (by (with_reducible repeat (first | apply zai | apply zaj | apply zad)); exact BK117.out) hb); have n2_ := zaf.mk (zal (g := gb118) (o := .cells #[.slice none 0 0, .slice none 0 0, .slice none 0 0] 51 (0, 0)) (by (with_reducible repeat (first | apply zai | apply zaj | apply zad)); exact BK118.out) hb); have n3_ := zaf.mk (zal (g := gb119) (o := .cells #[.slice none 0 0, .slice none 0 0, .slice none 0 0] 51 (0, 0)) (by (with_reducible repeat (first | apply zai | apply zaj | apply zad)); exact BK119.out) hb); have n4_ := zaf.mk (zam (by repeat (first | (with_reducible first | exact HB.out | apply zab | apply zaa | apply zah | refine zae ?_ GE117.out | refine zae ?_ GE118.out | refine zae ?_ GE119.out) | exact HB.out)) hb); clear BK117; clear BK118; clear BK119; clear HB; have HO122 := n0_; have BK117 := n1_; have BK118 := n2_; have BK119 := n3_; have HB := n4_; clear n0_ n1_ n2_ n3_ n4_; clear hb ho8; have hnb9 := NB117_118.out; have hnc9 := NB118_117.out; have hnb10 := NB117_119.out; have hnc10 := NB119_117.out; have hcz11_0 : w7.cell? ⟨gb117, 0, none⟩ = some (.slice A0_0 l0_0.length c0_0) := (zac BK117.out 0).trans rfl; have hcz11_1 : w7.cell? ⟨gb117, 1, none⟩ = some (.slice A0_1 l0_1.length c0_1) := (zac BK117.out 1).trans rfl; have hcz11_2 : w7.cell? ⟨gb117, 2, none⟩ = some (.slice A0_2 l0_2.length c0_2) := (zac BK117.out 2).trans rfl; have hfz11_0 := zak BK117.out 0; have hfz11_1 := zak BK117.out 1; have hfz11_2 := zak BK117.out 2) | ((with_reducible refine zax (b := .append) (xs := #[.tmp 6, .tmp 8]) rfl ?_); at_builtin; refine Kd.zbh k112 (w0 := w) w.heap.size rfl (.tmp 6) (.tmp 8) 47 112 (.agg #[(.string ⟨#[]⟩), (.bool false)]) 24 rfl Tryd.underlying47 info112 rfl (by decide) (by omega) v121 y120 l0_0 _ _ _ (fun _ => True) (fun _ => False) rfl rfl ?aO ?aR (fun _ _ h => h) (fun _ h => h.elim) ?aF ?aB ?aS ?aL ?_; (case aR => repeat (first | exact (Kd.zaw HR0_0.out HB.out) | (with_reducible refine Kd.C_alloc ?_ _) | (with_reducible refine Kd.C_drewN ?_ _) | (with_reducible refine Kd.C_drew ?_))); (case aB => exact (by repeat (first | (with_reducible first | exact HB.out | apply zab | apply zaa | apply zah | refine zae ?_ GE117.out | refine zae ?_ GE118.out | refine zae ?_ GE119.out) | exact HB.out))); (case aF => exact (fun _ _ => trivial)); (case aO => exact (by (with_reducible repeat (first | apply Kd.zba | apply Kd.zbc | apply Kd.zbk)); exact HO122.out)); (case aS => exact (zan (by repeat (first | (with_reducible first | exact HB.out | apply zab | apply zaa | apply zah | refine zae ?_ GE117.out | refine zae ?_ GE118.out | refine zae ?_ GE119.out) | exact HB.out)))); (case aL => have := LMc2.out; omega); intro v124 w12 ho hb hg hat; rw [← Ny123.out] at ho; have n0_ := zaf.mk (zas (g := gb117) (o := .cells #[.slice A0_0 l0_0.length c0_0, .slice A0_1 l0_1.length c0_1, .slice A0_2 l0_2.length c0_2] 51 (0, 0)) (by (with_reducible repeat (first | apply zai | apply zaj | apply zad)); exact BK117.out) hg (Kd.R_ne HO122.out BK117.out (by decide))); have n1_ := zaf.mk (zas (g := gb118) (o := .cells #[.slice none 0 0, .slice none 0 0, .slice none 0 0] 51 (0, 0)) (by (with_reducible repeat (first | apply zai | apply zaj | apply zad)); exact BK118.out) hg (Kd.R_ne HO122.out BK118.out (by decide))); have n2_ := zaf.mk (zas (g := gb119) (o := .cells #[.slice none 0 0, .slice none 0 0, .slice none 0 0] 51 (0, 0)) (by (with_reducible repeat (first | apply zai | apply zaj | apply zad)); exact BK119.out) hg (Kd.R_ne HO122.out BK119.out (by decide))); have n3_ := zaf.mk (hb); have n4_ := zaf.mk (ho); clear BK117; clear BK118; clear BK119; clear HB; clear HO122; have BK117 := n0_; have BK118 := n1_; have BK119 := n2_; have HB := n3_; have HO125 := n4_; clear n0_ n1_ n2_ n3_ n4_; clear ho hb hg hat; obtain ⟨Ao13, co13, eo13⟩ := Kd.R_slice HO125.out; subst eo13; have hnb14 := NB119_118.out; have hnc14 := NB118_119.out; have hcz15_0 : w12.cell? ⟨gb119, 0, none⟩ = some (.slice none 0 0) := (zac BK119.out 0).trans rfl; have hcz15_1 : w12.cell? ⟨gb119, 1, none⟩ = some (.slice none 0 0) := (zac BK119.out 1).trans rfl; have hcz15_2 : w12.cell? ⟨gb119, 2, none⟩ = some (.slice none 0 0) := (zac BK119.out 2).trans rfl; have hfz15_0 := zak BK119.out 0; have hfz15_1 := zak BK119.out 1; have hfz15_2 := zak BK119.out 2) | ((with_reducible refine zbb (N := 11) rfl ?_); refine Kd.R_lit k115 _ 115 ?hg (N := 11) ?hd (xs := ([] : List (S115))) (inner := []) (ok := fun _ => True) (okp := fun _ => True) ?hr ?hp (fun _ hk => hk) trivial (Below.refl _ _) (Nat.le_refl _) (by simp) ?_; (case hd => rfl); (case hg => rfl); (case hr => first | (go_simp; done) | (go_simp; rfl)); (case hp => exact (Reps.none _ _)); intro v127 w16 ho17 hb hg_ hnew_; clear hg_ hnew_; (first | rw [← Ny126.out] at ho17 | (simp only [Int.reduceToNat] at ho17; rw [← Ny126.out] at ho17)); have n0_ := zaf.mk (Kd.zbi (by (with_reducible repeat (first | apply Kd.zba | apply Kd.zbc | apply Kd.zbk)); exact (Kd.zbg (Kd.R_far (p := ⟨gb119, 0, none⟩) (Kd.R_types HO125.out BK119.out (by decide)) (fun _ hk => hk.2) (.slice Ao13 y123.length co13)) (fun _ h_ => h_.1))) hb); have n1_ := zaf.mk (Kd.R_lower ho17 (zan (by repeat (first | (with_reducible first | exact HB.out | apply zab | apply zaa | apply zah | refine zae ?_ GE117.out | refine zae ?_ GE118.out | refine zae ?_ GE119.out) | exact HB.out)))); have n2_ := zaf.mk (zal (g := gb117) (o := .cells #[.slice A0_0 l0_0.length c0_0, .slice A0_1 l0_1.length c0_1, .slice A0_2 l0_2.length c0_2] 51 (0, 0)) (by (with_reducible repeat (first | apply zai | apply zaj | apply zad)); refine zaq ?_ NB117_119.out _; (with_reducible repeat (first | apply zai | apply zaj | apply zad)); exact BK117.out) hb); have n3_ := zaf.mk (zal (g := gb118) (o := .cells #[.slice none 0 0, .slice none 0 0, .slice none 0 0] 51 (0, 0)) (by (with_reducible repeat (first | apply zai | apply zaj | apply zad)); refine zaq ?_ NB118_119.out _; (with_reducible repeat (first | apply zai | apply zaj | apply zad)); exact BK118.out) hb); have n4_ := zaf.mk (zal (g := gb119) (o := .cells #[.slice Ao13 y123.length co13, .slice none 0 0, .slice none 0 0] 51 (0, 0)) (by (with_reducible repeat (first | apply zai | apply zaj | apply zad)); refine zar (cs := #[.slice none 0 0, .slice none 0 0, .slice none 0 0]) ?_ 0 _ rfl; (with_reducible repeat (first | apply zai | apply zaj | apply zad)); exact BK119.out) hb); have n5_ := zaf.mk (zam (by repeat (first | (with_reducible first | exact HB.out | apply zab | apply zaa | apply zah | refine zae ?_ GE117.out | refine zae ?_ GE118.out | refine zae ?_ GE119.out) | exact HB.out)) hb); clear HO125; clear BK117; clear BK118; clear BK119; clear HB; have HO125 := n0_; have HO128 := n1_; have BK117 := n2_; have BK118 := n3_; have BK119 := n4_; have HB := n5_; clear n0_ n1_ n2_ n3_ n4_ n5_; clear hb ho17; have hcz18_0 : w16.cell? ⟨gb117, 0, none⟩ = some (.slice A0_0 l0_0.length c0_0) := (zac BK117.out 0).trans rfl; have hcz18_1 : w16.cell? ⟨gb117, 1, none⟩ = some (.slice A0_1 l0_1.length c0_1) := (zac BK117.out 1).trans rfl; have hcz18_2 : w16.cell? ⟨gb117, 2, none⟩ = some (.slice A0_2 l0_2.length c0_2) := (zac BK117.out 2).trans rfl; have hfz18_0 := zak BK117.out 0; have hfz18_1 := zak BK117.out 1; have hfz18_2 := zak BK117.out 2) | ((with_reducible refine zax (b := .append) (xs := #[.tmp 11, .tmp 13]) rfl ?_); at_builtin; refine Kd.zbh k115 (w0 := w) w.heap.size rfl (.tmp 11) (.tmp 13) 48 115 (.agg #[(.string ⟨#[]⟩), (.int .i64 0)]) 24 rfl Tryd.underlying48 info115 rfl (by decide) (by omega) v127 y126 l0_1 _ _ _ (fun _ => True) (fun _ => False) rfl rfl ?aO ?aR (fun _ _ h => h) (fun _ h => h.elim) ?aF ?aB ?aS ?aL ?_; (case aR => repeat (first | exact (Kd.zaw HR0_1.out HB.out) | (with_reducible refine Kd.C_alloc ?_ _) | (with_reducible refine Kd.C_drewN ?_ _) | (with_reducible refine Kd.C_drew ?_))); (case aB => exact (by repeat (first | (with_reducible first | exact HB.out | apply zab | apply zaa | apply zah | refine zae ?_ GE117.out | refine zae ?_ GE118.out | refine zae ?_ GE119.out) | exact HB.out))); (case aF => exact (fun _ _ => trivial)); (case aO => exact (by (with_reducible repeat (first | apply Kd.zba | apply Kd.zbc | apply Kd.zbk)); exact HO128.out)); (case aS => exact (zan (by repeat (first | (with_reducible first | exact HB.out | apply zab | apply zaa | apply zah | refine zae ?_ GE117.out | refine zae ?_ GE118.out | refine zae ?_ GE119.out) | exact HB.out)))); (case aL => have := LMc3.out; omega); intro v130 w19 ho hb hg hat; rw [← Ny129.out] at ho; have n0_ := zaf.mk (zas (g := gb117) (o := .cells #[.slice A0_0 l0_0.length c0_0, .slice A0_1 l0_1.length c0_1, .slice A0_2 l0_2.length c0_2] 51 (0, 0)) (by (with_reducible repeat (first | apply zai | apply zaj | apply zad)); exact BK117.out) hg (Kd.R_ne HO128.out BK117.out (by decide))); have n1_ := zaf.mk (zas (g := gb118) (o := .cells #[.slice none 0 0, .slice none 0 0, .slice none 0 0] 51 (0, 0)) (by (with_reducible repeat (first | apply zai | apply zaj | apply zad)); exact BK118.out) hg (Kd.R_ne HO128.out BK118.out (by decide))); have n2_ := zaf.mk (zas (g := gb119) (o := .cells #[.slice Ao13 y123.length co13, .slice none 0 0, .slice none 0 0] 51 (0, 0)) (by (with_reducible repeat (first | apply zai | apply zaj | apply zad)); exact BK119.out) hg (Kd.R_ne HO128.out BK119.out (by decide))); have n3_ := zaf.mk (Kd.R_over' (by (with_reducible repeat (first | apply Kd.zba | apply Kd.zbc | apply Kd.zbk)); exact HO125.out) (Kd.R_typed (by (with_reducible repeat (first | apply Kd.zba | apply Kd.zbc | apply Kd.zbk)); exact HO128.out)) (by decide) hg); have n4_ := zaf.mk (hb); have n5_ := zaf.mk (ho); clear BK117; clear BK118; clear BK119; clear HO125; clear HB; clear HO128; have BK117 := n0_; have BK118 := n1_; have BK119 := n2_; have HO125 := n3_; have HB := n4_; have HO131 := n5_; clear n0_ n1_ n2_ n3_ n4_ n5_; clear ho hb hg hat; obtain ⟨Ao20, co20, eo20⟩ := Kd.R_slice HO131.out; subst eo20; have hcz21_0 : w19.cell? ⟨gb119, 0, none⟩ = some (.slice Ao13 y123.length co13) := (zac BK119.out 0).trans rfl; have hcz21_1 : w19.cell? ⟨gb119, 1, none⟩ = some (.slice none 0 0) := (zac BK119.out 1).trans rfl; have hcz21_2 : w19.cell? ⟨gb119, 2, none⟩ = some (.slice none 0 0) := (zac BK119.out 2).trans rfl; have hfz21_0 := zak BK119.out 0; have hfz21_1 := zak BK119.out 1; have hfz21_2 := zak BK119.out 2))
   go_loopg [4] k (fun kq v4 w' => ∃ (x4_1 : Int) (x120002_1 : List (S77)) (u120002 : Value), v4 = .int .i64 x4_1 ∧ zaf (trellislaw13_twinGram.l0 kq x4_1 l0_0 l0_1 l0_2 y123 y129 x120002_1 = some (r1, r2, r3)) ∧ zaf (kq ≤ k) ∧ zaf (Kd.R k112 112 w' w.heap.size (fun _ => True) (.slice Ao13 y123.length co13) y123) ∧ zaf (Kd.R k115 115 w' w.heap.size (fun _ => True) (.slice Ao20 y129.length co20) y129) ∧ zaf (Kd.S k77 77 w' w.heap.size (fun _ => True) u120002 x120002_1) ∧ zaf (w'.heap[gb117]? = some (.cells #[(.slice A0_0 l0_0.length c0_0), (.slice A0_1 l0_1.length c0_1), (.slice A0_2 l0_2.length c0_2)] 51 (0, 0))) ∧ zaf (w'.heap[gb118]? = some (.cells #[(.slice none 0 0), (.slice none 0 0), (.slice none 0 0)] 51 (0, 0))) ∧ zaf (w'.heap[gb119]? = some (.cells #[(.slice Ao13 y123.length co13), (.slice Ao20 y129.length co20), u120002] 51 (0, 0))) ∧ zaf (Below w.heap.size w w'))
   case atStart => exact ⟨(0), (([] : List (S77))), (.slice none 0 0), (by first | rfl | (simp; done) | (simp [*]; done)), H', ⟨Nat.le_refl _⟩, ⟨by (with_reducible repeat (first | apply Kd.zba | apply Kd.zbc | apply Kd.zbk)); exact Kd.zbg (Kd.R_far (p := ⟨gb119, 1, none⟩) (Kd.R_types HO125.out BK119.out (by decide)) (fun _ hk => hk.2) (.slice Ao20 y129.length co20)) (fun _ hk => trivial)⟩, ⟨by (with_reducible repeat (first | apply Kd.zba | apply Kd.zbc | apply Kd.zbk)); exact Kd.zbg (Kd.R_far (p := ⟨gb119, 1, none⟩) (Kd.R_types HO131.out BK119.out (by decide)) (fun _ hk => hk.2) (.slice Ao20 y129.length co20)) (fun _ hk => trivial)⟩, ⟨by first | exact Kd.S_nil _ _ _ _ _ | exact Kd.N_nil _ _ _ _ _ | exact Kd.V_nil _ _ _ _ _ | exact Kd.Q_nil _ _ _ _ _ | exact Kd.R_nil _ _ _ _ _⟩, ⟨by (with_reducible repeat (first | apply zai | apply zaj | apply zad)); refine zaq ?_ NB117_119.out _; (with_reducible repeat (first | apply zai | apply zaj | apply zad)); exact BK117.out⟩, ⟨by (with_reducible repeat (first | apply zai | apply zaj | apply zad)); refine zaq ?_ NB118_119.out _; (with_reducible repeat (first | apply zai | apply zaj | apply zad)); exact BK118.out⟩, ⟨by (with_reducible repeat (first | apply zai | apply zaj | apply zad)); refine zar (cs := #[.slice Ao13 y123.length co13, .slice none 0 0, .slice none 0 0]) ?_ 1 _ rfl; (with_reducible repeat (first | apply zai | apply zaj | apply zad)); exact BK119.out⟩, ⟨by repeat (first | (with_reducible first | exact HB.out | apply zab | apply zaa | apply zah | refine zae ?_ GE117.out | refine zae ?_ GE118.out | refine zae ?_ GE119.out) | exact HB.out)⟩⟩
   case round =>
    clear H'
    try clear c1
    try clear c2
    try clear p2
    try clear c3
    try clear c9
    try clear c10
    try clear c14
    try clear hcz11_0
    try clear hcz11_1
    try clear hcz11_2
    try clear hcz15_0
    try clear hcz15_1
    try clear hcz15_2
    try clear hcz18_0
    try clear hcz18_1
    try clear hcz18_2
    try clear hcz21_0
    try clear hcz21_1
    try clear hcz21_2
    try clear hfz11_0
    try clear hfz11_1
    try clear hfz11_2
    try clear hfz15_0
    try clear hfz15_1
    try clear hfz15_2
    try clear hfz18_0
    try clear hfz18_1
    try clear hfz18_2
    try clear hfz21_0
    try clear hfz21_1
    try clear hfz21_2
    obtain ⟨x4_1, x120002_1, u120002, rfl, HA, HK1, HO_120000, HO_120001, HO_120002, BK117, BK118, BK119, HB⟩ := hrel; cases gk with
    | zero => exact absurd HA.out (by simp [trellislaw13_twinGram.l0])
    | succ k1 =>
     have H := HA.out; clear HA; simp only [trellislaw13_twinGram.l0] at H; by_cases c22 : x4_1 < (l0_2.length : Int)
     ·rw [if_pos c22] at H; have c22b0 : decide (x4_1 < (l0_2.length : Int)) = true := decide_eq_true c22; clear c22; obtain ⟨y132, hy132⟩ : ∃ y_ : List (S110), y_ = (([] : List (S110))) := ⟨_, rfl⟩; replace H : (if 0 ≤ x4_1 then (if y132.length + ((zao l0_2 x4_1).f1).length < 3518437208883 then (if x120002_1.length < 4398046511104 then (trellislaw13_twinGram.l0 k1 (wrap64 (x4_1 + 1)) l0_0 l0_1 l0_2 y123 y129 (x120002_1 ++ [(⟨(zao l0_2 x4_1).f0, (y132 ++ ((zao l0_2 x4_1).f1))⟩ : S77)])) else (none)) else (none)) else (none)) = some (r1, r2, r3) := by first | (rw [hy132]; with_reducible exact H) | (have H2_ := (Option.bind_some _ _).symm.trans H; rw [hy132]; with_reducible exact H2_) | (have H2_ := (Option.bind_some _ _).symm.trans H; with_reducible exact H2_) | with_reducible exact H | (rw [hy132]; exact H) | exact H
      have Ny132 := zaf.mk hy132; clear hy132; by_cases c23 : 0 ≤ x4_1
      ·rw [if_pos c23] at H; have c23b0 : decide (0 ≤ x4_1) = true := decide_eq_true c23; clear c23; by_cases c24 : y132.length + ((zao l0_2 x4_1).f1).length < 3518437208883
       ·rw [if_pos c24] at H; have LMc24 := zaf.mk c24; clear c24; obtain ⟨y136, hy136⟩ : ∃ y_ : List (S110), y_ = (y132 ++ ((zao l0_2 x4_1).f1)) := ⟨_, rfl⟩; replace H : (if x120002_1.length < 4398046511104 then (trellislaw13_twinGram.l0 k1 (wrap64 (x4_1 + 1)) l0_0 l0_1 l0_2 y123 y129 (x120002_1 ++ [(⟨(zao l0_2 x4_1).f0, y136⟩ : S77)])) else (none)) = some (r1, r2, r3) := by first | (rw [hy136]; with_reducible exact H) | (have H2_ := (Option.bind_some _ _).symm.trans H; rw [hy136]; with_reducible exact H2_) | (have H2_ := (Option.bind_some _ _).symm.trans H; with_reducible exact H2_) | with_reducible exact H | (rw [hy136]; exact H) | exact H
        have Ny136 := zaf.mk hy136; clear hy136; by_cases c25 : x120002_1.length < 4398046511104
        ·rw [if_pos c25] at H; have LMc25 := zaf.mk c25; clear c25; obtain ⟨y140, hy140⟩ : ∃ y_ : List (S77), y_ = (x120002_1 ++ [(⟨(zao l0_2 x4_1).f0, y136⟩ : S77)]) := ⟨_, rfl⟩; replace H : (trellislaw13_twinGram.l0 k1 (wrap64 (x4_1 + 1)) l0_0 l0_1 l0_2 y123 y129 y140) = some (r1, r2, r3) := by first | (rw [hy140]; with_reducible exact H) | (have H2_ := (Option.bind_some _ _).symm.trans H; rw [hy140]; with_reducible exact H2_) | (have H2_ := (Option.bind_some _ _).symm.trans H; with_reducible exact H2_) | with_reducible exact H | (rw [hy140]; exact H) | exact H
         have Ny140 := zaf.mk hy140; clear hy140; have H' := zaf.mk H; clear H; have hnb26 := NB117_118.out; have hnc26 := NB118_117.out; have hnb27 := NB117_119.out; have hnc27 := NB119_117.out; have hcz28_0 : wr.cell? ⟨gb117, 0, none⟩ = some (.slice A0_0 l0_0.length c0_0) := (zac BK117.out 0).trans rfl; have hcz28_1 : wr.cell? ⟨gb117, 1, none⟩ = some (.slice A0_1 l0_1.length c0_1) := (zac BK117.out 1).trans rfl; have hcz28_2 : wr.cell? ⟨gb117, 2, none⟩ = some (.slice A0_2 l0_2.length c0_2) := (zac BK117.out 2).trans rfl; have hfz28_0 := zak BK117.out 0; have hfz28_1 := zak BK117.out 1; have hfz28_2 := zak BK117.out 2
         try go_wp2_with (first | ((with_reducible refine zbb (N := 23) rfl ?_); refine Kd.R_lit k110 _ 110 ?hg (N := 23) ?hd (xs := ([] : List (S110))) (inner := []) (ok := fun _ => True) (okp := fun _ => True) ?hr ?hp (fun _ hk => hk) trivial (Below.refl _ _) (Nat.le_refl _) (by simp) ?_; (case hd => rfl); (case hg => rfl); (case hr => first | (go_simp; done) | (go_simp; rfl)); (case hp => exact (Reps.none _ _)); intro v133 w29 ho30 hb hg_ hnew_; clear hg_ hnew_; (first | rw [← Ny132.out] at ho30 | (simp only [Int.reduceToNat] at ho30; rw [← Ny132.out] at ho30)); have n0_ := zaf.mk (Kd.zbi (by (with_reducible repeat (first | apply Kd.zba | apply Kd.zbc | apply Kd.zbk)); exact HO_120000.out) hb); have n1_ := zaf.mk (Kd.zbi (by (with_reducible repeat (first | apply Kd.zba | apply Kd.zbc | apply Kd.zbk)); exact HO_120001.out) hb); have n2_ := zaf.mk (Kd.S_elder' (by (with_reducible repeat (first | apply Kd.S_alloc | apply Kd.S_drewN | apply Kd.S_drew)); exact HO_120002.out) (Kd.R_base ho30) hb); have n3_ := zaf.mk (Kd.R_lower ho30 (zan (by repeat (first | (with_reducible first | exact HB.out | apply zab | apply zaa | apply zah | refine zae ?_ GE117.out | refine zae ?_ GE118.out | refine zae ?_ GE119.out) | exact HB.out)))); have n4_ := zaf.mk (zal (g := gb117) (o := .cells #[.slice A0_0 l0_0.length c0_0, .slice A0_1 l0_1.length c0_1, .slice A0_2 l0_2.length c0_2] 51 (0, 0)) (by (with_reducible repeat (first | apply zai | apply zaj | apply zad)); exact BK117.out) hb); have n5_ := zaf.mk (zal (g := gb118) (o := .cells #[.slice none 0 0, .slice none 0 0, .slice none 0 0] 51 (0, 0)) (by (with_reducible repeat (first | apply zai | apply zaj | apply zad)); exact BK118.out) hb); have n6_ := zaf.mk (zal (g := gb119) (o := .cells #[.slice Ao13 y123.length co13, .slice Ao20 y129.length co20, u120002] 51 (0, 0)) (by (with_reducible repeat (first | apply zai | apply zaj | apply zad)); exact BK119.out) hb); have n7_ := zaf.mk (zam (by repeat (first | (with_reducible first | exact HB.out | apply zab | apply zaa | apply zah | refine zae ?_ GE117.out | refine zae ?_ GE118.out | refine zae ?_ GE119.out) | exact HB.out)) hb); clear HO_120000; clear HO_120001; clear HO_120002; clear BK117; clear BK118; clear BK119; clear HB; have HO_120000 := n0_; have HO_120001 := n1_; have HO_120002 := n2_; have HO134 := n3_; have BK117 := n4_; have BK118 := n5_; have BK119 := n6_; have HB := n7_; clear n0_ n1_ n2_ n3_ n4_ n5_ n6_ n7_; clear hb ho30; have hcz31_0 : w29.cell? ⟨gb117, 0, none⟩ = some (.slice A0_0 l0_0.length c0_0) := (zac BK117.out 0).trans rfl; have hcz31_1 : w29.cell? ⟨gb117, 1, none⟩ = some (.slice A0_1 l0_1.length c0_1) := (zac BK117.out 1).trans rfl; have hcz31_2 : w29.cell? ⟨gb117, 2, none⟩ = some (.slice A0_2 l0_2.length c0_2) := (zac BK117.out 2).trans rfl; have hfz31_0 := zak BK117.out 0; have hfz31_1 := zak BK117.out 1; have hfz31_2 := zak BK117.out 2; have p135 : 0 ≤ (x4_1 : Int) := of_decide_eq_true (by first | (with_reducible assumption) | assumption); have q135 : x4_1 < (l0_2.length : Int) := of_decide_eq_true (by first | (with_reducible assumption) | assumption); obtain ⟨ad135, A135_1, c135_1, e135, hx135_0, hx135_1, hl135_1, hi135_1⟩ := at_T77 HR0_2.out x4_1 p135 q135; cases e135; replace hx135_0 := (HB.out.cell (World.block_lt_of_cell? w _ hx135_0)).trans hx135_0; replace hx135_1 := (HB.out.cell (World.block_lt_of_cell? w _ hx135_1)).trans hx135_1; have HR135_1 := zaf.mk hi135_1; have HC135_1 := zaf.mk hl135_1; clear hi135_1 hl135_1; replace p135 := eq_true p135; replace q135 := eq_true q135) | ((with_reducible refine zax (b := .append) (xs := #[.tmp 23, .tmp 29]) rfl ?_); at_builtin; refine Kd.zbh k110 (w0 := w) w.heap.size rfl (.tmp 23) (.tmp 29) 75 110 (.agg #[(.int .i64 0), (.string ⟨#[]⟩), (.string ⟨#[]⟩)]) 40 rfl Tryd.underlying75 info110 rfl (by decide) (by omega) v133 y132 ((zao l0_2 x4_1).f1) _ _ _ (fun _ => True) (fun _ => False) rfl rfl ?aO ?aR (fun _ _ h => h) (fun _ h => h.elim) ?aF ?aB ?aS ?aL ?_; (case aR => repeat (first | exact (Kd.zaw HR135_1.out HB.out) | (with_reducible refine Kd.C_alloc ?_ _) | (with_reducible refine Kd.C_drewN ?_ _) | (with_reducible refine Kd.C_drew ?_))); (case aB => exact (by repeat (first | (with_reducible first | exact HB.out | apply zab | apply zaa | apply zah | refine zae ?_ GE117.out | refine zae ?_ GE118.out | refine zae ?_ GE119.out) | exact HB.out))); (case aF => exact (fun _ _ => trivial)); (case aO => exact (by (with_reducible repeat (first | apply Kd.zba | apply Kd.zbc | apply Kd.zbk)); exact HO134.out)); (case aS => exact (zan (by repeat (first | (with_reducible first | exact HB.out | apply zab | apply zaa | apply zah | refine zae ?_ GE117.out | refine zae ?_ GE118.out | refine zae ?_ GE119.out) | exact HB.out)))); (case aL => have := LMc24.out; omega); intro v137 w32 ho hb hg hat; rw [← Ny136.out] at ho; have n0_ := zaf.mk (Kd.R_over' (by (with_reducible repeat (first | apply Kd.zba | apply Kd.zbc | apply Kd.zbk)); exact HO_120000.out) (Kd.R_typed (by (with_reducible repeat (first | apply Kd.zba | apply Kd.zbc | apply Kd.zbk)); exact HO134.out)) (by decide) hg); have n1_ := zaf.mk (Kd.R_over' (by (with_reducible repeat (first | apply Kd.zba | apply Kd.zbc | apply Kd.zbk)); exact HO_120001.out) (Kd.R_typed (by (with_reducible repeat (first | apply Kd.zba | apply Kd.zbc | apply Kd.zbk)); exact HO134.out)) (by decide) hg); have n2_ := zaf.mk (Kd.S_after (ok := (fun _ => True)) (by (with_reducible repeat (first | apply Kd.S_alloc | apply Kd.S_drewN | apply Kd.S_drew)); exact HO_120002.out) hg hat); have n3_ := zaf.mk (zas (g := gb117) (o := .cells #[.slice A0_0 l0_0.length c0_0, .slice A0_1 l0_1.length c0_1, .slice (some ad135) l0_2.length c0_2] 51 (0, 0)) (by (with_reducible repeat (first | apply zai | apply zaj | apply zad)); exact BK117.out) hg (Kd.R_ne HO134.out BK117.out (by decide))); have n4_ := zaf.mk (zas (g := gb118) (o := .cells #[.slice none 0 0, .slice none 0 0, .slice none 0 0] 51 (0, 0)) (by (with_reducible repeat (first | apply zai | apply zaj | apply zad)); exact BK118.out) hg (Kd.R_ne HO134.out BK118.out (by decide))); have n5_ := zaf.mk (zas (g := gb119) (o := .cells #[.slice Ao13 y123.length co13, .slice Ao20 y129.length co20, u120002] 51 (0, 0)) (by (with_reducible repeat (first | apply zai | apply zaj | apply zad)); exact BK119.out) hg (Kd.R_ne HO134.out BK119.out (by decide))); have n6_ := zaf.mk (hb); have n7_ := zaf.mk (ho); clear HO_120000; clear HO_120001; clear HO_120002; clear BK117; clear BK118; clear BK119; clear HB; clear HO134; have HO_120000 := n0_; have HO_120001 := n1_; have HO_120002 := n2_; have BK117 := n3_; have BK118 := n4_; have BK119 := n5_; have HB := n6_; have HO138 := n7_; clear n0_ n1_ n2_ n3_ n4_ n5_ n6_ n7_; clear ho hb hg hat))
         have n0_ := zaf.mk (Kd.zbk HO_120000.out); have n1_ := zaf.mk (Kd.zbk HO_120001.out); have n2_ := zaf.mk (Kd.S_drew HO_120002.out); have n3_ := zaf.mk (Kd.zbk HO138.out); have n4_ := zaf.mk (zaj BK117.out); have n5_ := zaf.mk (zaj BK118.out); have n6_ := zaf.mk (zaj BK119.out); have n7_ := zaf.mk (zah HB.out); clear HO_120000; clear HO_120001; clear HO_120002; clear HO138; clear BK117; clear BK118; clear BK119; clear HB; have HO_120000 := n0_; have HO_120001 := n1_; have HO_120002 := n2_; have HO138 := n3_; have BK117 := n4_; have BK118 := n5_; have BK119 := n6_; have HB := n7_; clear n0_ n1_ n2_ n3_ n4_ n5_ n6_ n7_; have p139 : 0 ≤ (x4_1 : Int) := of_decide_eq_true (by first | (with_reducible assumption) | assumption)
         have q139 : x4_1 < (l0_2.length : Int) := of_decide_eq_true (by first | (with_reducible assumption) | assumption)
         obtain ⟨ad139, A139_1, c139_1, e139, hx139_0, hx139_1, hl139_1, hi139_1⟩ := at_T77 HR0_2.out x4_1 p139 q139; have hw139_1 := hx139_1; have hw139_0 := hx139_0; obtain rfl : ad135 = ad139 := (by injection e139)
         replace hx139_0 := (HB.out.cell (World.block_lt_of_cell? w _ hx139_0)).trans hx139_0; replace hx139_1 := (HB.out.cell (World.block_lt_of_cell? w _ hx139_1)).trans hx139_1; have HR139_1 := zaf.mk hi139_1; have HC139_1 := zaf.mk hl139_1; clear hi139_1 hl139_1; replace p139 := eq_true p139; replace q139 := eq_true q139; obtain ⟨Ao34, co34, eo34⟩ := Kd.R_slice HO138.out
         (first | subst eo34 | (injection eo34 with f1_ f2_ f3_; have f4_ := f1_.symm; have f5_ := f3_.symm; clear f1_ f2_ f3_; subst f4_; subst f5_))
         refine start_ (n := 14) (S := fun w' => w'.cell? ⟨gb119, 0, none⟩ = some (.slice Ao13 y123.length co13) ∧ w'.cell? ⟨gb119, 1, none⟩ = some (.slice Ao20 y129.length co20) ∧ w'.cell? ⟨gb119, 2, none⟩ = some (u120002) ∧ w'.cell? ⟨gb117, 0, none⟩ = some (.slice A0_0 l0_0.length c0_0) ∧ w'.cell? ⟨gb117, 1, none⟩ = some (.slice A0_1 l0_1.length c0_1) ∧ w'.cell? ⟨gb117, 2, none⟩ = some (.slice (some ad135) l0_2.length c0_2) ∧ w'.cell? (ad135.add ((x4_1).toNat * 2)) = some (.int .i64 ((zao l0_2 x4_1).f0)) ∧ w'.cell? ⟨(ad135.add ((x4_1).toNat * 2)).block, (ad135.add ((x4_1).toNat * 2)).off + 1, none⟩ = some (.slice A139_1 ((zao l0_2 x4_1).f1).length c139_1)) (ds := [13]) #[false, false, false, false, false, false, false, false, false, false, false, false, false, false] (by kernel_rfl) rfl rfl ⟨(zac BK119.out 0).trans rfl, (zac BK119.out 1).trans rfl, (zac BK119.out 2).trans rfl, (zac BK117.out 0).trans rfl, (zac BK117.out 1).trans rfl, (zac BK117.out 2).trans rfl, ((HB.out.cell (World.block_lt_of_cell? w _ hw139_0)).trans hw139_0), ((HB.out.cell (World.block_lt_of_cell? w _ hw139_1)).trans hw139_1)⟩ (fun hHeld => ?_); refine with_tabW trellislaw13_twinGram.tab8 trellislaw13_twinGram.bits8 (fun HT_ HW_ => ?_)
         generalize w32.drew = w33 at HO_120000 HO_120001 HO_120002 HO138 BK117 BK118 BK119 HB HR139_1 hx139_0 hx139_1 hHeld ⊢; refine pu_ (i := 0) (N := some 31) (v := ?_) (a' := ?_) rfl rfl (any_of HT_.out (by kernel_rfl)) (fun _ _ _ h => h) (Or.inl ⟨by rfl, ?_⟩) ?_ ?_
         rotate_left
         ·intro w'; go_simp
          with_reducible rfl
         rotate_left
         ·simp only [nm_]; rfl
         refine pu_ (i := 2) (N := some 33) (v := ?_) (a' := ?_) rfl rfl (any_of HT_.out (by kernel_rfl)) (fun _ _ _ h => h) (Or.inl ⟨by rfl, ?_⟩) ?_ ?_
         rotate_left
         ·intro w'; go_simp
          with_reducible rfl
         rotate_left
         ·simp only [nm_]; rfl
         refine pu_ (i := 4) (N := some 35) (v := ?_) (a' := ?_) rfl rfl (any_of HT_.out (by kernel_rfl)) (fun _ _ _ h => h) (Or.inl ⟨by rfl, ?_⟩) ?_ ?_
         rotate_left
         ·intro w'; go_simp
          with_reducible rfl
         rotate_left
         ·simp only [nm_]; rfl
         refine pu_ (i := 8) (N := some 39) (v := ?_) (a' := ?_) rfl rfl (any_of HT_.out (by kernel_rfl)) (fun _ _ _ h => h) (Or.inl ⟨by rfl, ?_⟩) ?_ ?_
         rotate_left
         ·intro w'; go_simp
          with_reducible rfl
         rotate_left
         ·simp only [nm_]; rfl
         refine tu_ (i := 1) (N := some 32) (v := ?_) (a' := ?_) rfl rfl (take_ofW HT_.out HW_.out (by kernel_rfl)) (fun _ _ _ h => h) (Or.inl ⟨by rfl, ?_⟩) hHeld ?_ ?_
         rotate_left
         ·rintro w' ⟨s0, s1, s2, s3, s4, s5, s6, s7⟩; go_simp
          with_reducible rfl
         rotate_left
         ·simp only [nm_]; rfl
         refine tu_ (i := 3) (N := some 34) (v := ?_) (a' := ?_) rfl rfl (take_ofW HT_.out HW_.out (by kernel_rfl)) (fun _ _ _ h => h) (Or.inl ⟨by rfl, ?_⟩) hHeld ?_ ?_
         rotate_left
         ·rintro w' ⟨s0, s1, s2, s3, s4, s5, s6, s7⟩; go_simp
          with_reducible rfl
         rotate_left
         ·simp only [nm_]; rfl
         refine pu_ (i := 5) (N := some 36) (v := ?_) (a' := ?_) rfl rfl (any_of HT_.out (by kernel_rfl)) (fun _ _ _ h => h) (Or.inl ⟨by rfl, ?_⟩) ?_ ?_
         rotate_left
         ·intro w'; go_simp
          with_reducible rfl
         rotate_left
         ·simp only [nm_]; rfl
         refine pu_ (i := 6) (N := some 37) (v := ?_) (a' := ?_) rfl rfl (any_of HT_.out (by kernel_rfl)) (fun _ _ _ h => h) (Or.inl ⟨by rfl, ?_⟩) ?_ ?_
         rotate_left
         ·intro w'; go_simp
          with_reducible rfl
         rotate_left
         ·simp only [nm_]; rfl
         refine tu_ (i := 7) (N := some 38) (v := ?_) (a' := ?_) rfl rfl (take_ofW HT_.out HW_.out (by kernel_rfl)) (fun _ _ _ h => h) (Or.inl ⟨by rfl, ?_⟩) hHeld ?_ ?_
         rotate_left
         ·rintro w' ⟨s0, s1, s2, s3, s4, s5, s6, s7⟩; go_simp
          with_reducible rfl
         rotate_left
         ·simp only [nm_]; rfl
         refine pu_ (i := 9) (N := some 40) (v := ?_) (a' := ?_) rfl rfl (any_of HT_.out (by kernel_rfl)) (fun _ _ _ h => h) (Or.inl ⟨by rfl, ?_⟩) ?_ ?_
         rotate_left
         ·intro w'; go_simp
          with_reducible rfl
         rotate_left
         ·simp only [nm_]; rfl
         refine ou_ (i := 10) (N := some 41) rfl rfl (one_of HT_.out (by kernel_rfl)) (by decide) (fun K hK => ?_)
         refine value_ (w1 := ?_) (v := ?_) (by rfl) rfl ?_ ?_
         rotate_left 2
         ·go_simp; constructor
          ·rfl
          ·rfl
         refine hK.out _ _ ⟨(zac (zad BK119.out _) 0).trans rfl, (zac (zad BK119.out _) 1).trans rfl, (zac (zad BK119.out _) 2).trans rfl, (zac (zad BK117.out _) 0).trans rfl, (zac (zad BK117.out _) 1).trans rfl, (zac (zad BK117.out _) 2).trans rfl, (World.cell?_alloc_lt _ _ _ (World.block_lt_of_cell? _ _ (((HB.out.cell (World.block_lt_of_cell? w _ hw139_0)).trans hw139_0)))).trans (((HB.out.cell (World.block_lt_of_cell? w _ hw139_0)).trans hw139_0)), (World.cell?_alloc_lt _ _ _ (World.block_lt_of_cell? _ _ (((HB.out.cell (World.block_lt_of_cell? w _ hw139_1)).trans hw139_1)))).trans (((HB.out.cell (World.block_lt_of_cell? w _ hw139_1)).trans hw139_1))⟩ (fun hHeld => ?_)
         clear hK K; refine norm_ (a' := ?_) ?_ ?_; rotate_left
         ·show Act.put _ (some 41) _ = _; simp only [nm_]; rfl
         refine ou_ (i := 11) (N := some 42) rfl rfl (one_of HT_.out (by kernel_rfl)) (by decide) (fun K hK => ?_)
         refine Kd.S_append_step k77 (w0 := w) w.heap.size (by rfl) (.tmp 32) (.tmp 41) 49 77 (.agg #[(.int .i64 0), (.slice none 0 0)]) 32 rfl Tryd.underlying49 info77 rfl (by decide) (by omega) u120002 x120002_1 (⟨(zao l0_2 x4_1).f0, y136⟩ : S77) [.int .i64 ((zao l0_2 x4_1).f0), .slice Ao34 y136.length co34] (fun _ => True) (fun k_ => some k_ = (.slice Ao34 y136.length co34 : Value).ownBlock) rfl rfl ?aP (fun k_ hk_ => ((Kd.zbg (ok' := fun k_ => ((fun _ => True)) k_ ∧ some k_ ≠ (u120002 : Value).ownBlock) (Kd.R_apart' (HO138.out) (Kd.S_typed HO_120002.out) (by decide)) (fun k_ hk => ⟨trivial, hk.2⟩))).1 k_ hk_.symm) ?aF ?aO ?aB ?aS ?aL ?_
         (case aP => exact k77_mkM _ _ _ (⟨(zao l0_2 x4_1).f0, y136⟩ : S77) (Kd.zbg (Kd.R_tight rfl (Kd.zbg (ok' := fun k_ => ((fun _ => True)) k_ ∧ some k_ ≠ (u120002 : Value).ownBlock) (Kd.R_apart' (HO138.out) (Kd.S_typed HO_120002.out) (by decide)) (fun k_ hk => ⟨trivial, hk.2⟩))) (fun _ h_ => h_)))
         (case aB => exact (by repeat (first | (with_reducible first | exact HB.out | apply zab | apply zaa | apply zah | refine zae ?_ GE117.out | refine zae ?_ GE118.out | refine zae ?_ GE119.out) | exact HB.out)))
         (case aF => exact (fun _ _ => trivial))
         (case aO => exact (by (with_reducible repeat (first | apply Kd.S_alloc | apply Kd.S_drewN | apply Kd.S_drew)); exact Kd.S_mono HO_120002.out (fun k_ hk => ⟨trivial, fun e_ => hk.2 e_⟩)))
         (case aS => exact (zan (by repeat (first | (with_reducible first | exact HB.out | apply zab | apply zaa | apply zah | refine zae ?_ GE117.out | refine zae ?_ GE118.out | refine zae ?_ GE119.out) | exact HB.out))))
         (case aL => have := LMc25.out; omega)
         intro v141 w35 ho hb hg hat; rw [← Ny140.out] at ho; have n0_ := zaf.mk (Kd.R_over' (by (with_reducible repeat (first | apply Kd.zba | apply Kd.zbc | apply Kd.zbk)); exact HO_120000.out) (Kd.S_typed (by (with_reducible repeat (first | apply Kd.S_alloc | apply Kd.S_drewN | apply Kd.S_drew)); exact HO_120002.out)) (by decide) hg)
         have n1_ := zaf.mk (Kd.R_over' (by (with_reducible repeat (first | apply Kd.zba | apply Kd.zbc | apply Kd.zbk)); exact HO_120001.out) (Kd.S_typed (by (with_reducible repeat (first | apply Kd.S_alloc | apply Kd.S_drewN | apply Kd.S_drew)); exact HO_120002.out)) (by decide) hg)
         have n2_ := zaf.mk (zas (g := gb117) (o := .cells #[.slice A0_0 l0_0.length c0_0, .slice A0_1 l0_1.length c0_1, .slice (some ad135) l0_2.length c0_2] 51 (0, 0)) (by (with_reducible repeat (first | apply zai | apply zaj | apply zad)); exact BK117.out) hg (Kd.S_ne HO_120002.out BK117.out (by decide)))
         have n3_ := zaf.mk (zas (g := gb118) (o := .cells #[.slice none 0 0, .slice none 0 0, .slice none 0 0] 51 (0, 0)) (by (with_reducible repeat (first | apply zai | apply zaj | apply zad)); exact BK118.out) hg (Kd.S_ne HO_120002.out BK118.out (by decide)))
         have n4_ := zaf.mk (zas (g := gb119) (o := .cells #[.slice Ao13 y123.length co13, .slice Ao20 y129.length co20, u120002] 51 (0, 0)) (by (with_reducible repeat (first | apply zai | apply zaj | apply zad)); exact BK119.out) hg (Kd.S_ne HO_120002.out BK119.out (by decide)))
         have n5_ := zaf.mk (hb); have n6_ := zaf.mk (ho); clear HO_120000; clear HO_120001; clear BK117; clear BK118; clear BK119; clear HB; clear HO_120002; clear HO138; have HO_120000 := n0_; have HO_120001 := n1_; have BK117 := n2_; have BK118 := n3_; have BK119 := n4_; have HB := n5_; have HO142 := n6_; clear n0_ n1_ n2_ n3_ n4_ n5_ n6_; clear ho hb hg hat; obtain ⟨Ao36, co36, eo36⟩ := Kd.S_slice HO142.out
         (first | subst eo36 | (injection eo36 with f1_ f2_ f3_; have f4_ := f1_.symm; have f5_ := f3_.symm; clear f1_ f2_ f3_; subst f4_; subst f5_))
         refine hK.out _ _ ⟨(zac BK119.out 0).trans rfl, (zac BK119.out 1).trans rfl, (zac BK119.out 2).trans rfl, (zac BK117.out 0).trans rfl, (zac BK117.out 1).trans rfl, (zac BK117.out 2).trans rfl, ((HB.out.cell (World.block_lt_of_cell? w _ hw139_0)).trans hw139_0), ((HB.out.cell (World.block_lt_of_cell? w _ hw139_1)).trans hw139_1)⟩ (fun hHeld => ?_)
         clear hK K; refine norm_ (a' := ?_) ?_ ?_; rotate_left
         ·show Act.put _ (some 42) _ = _; simp only [nm_]; rfl
         refine pu_ (i := 12) (N := some 43) (v := ?_) (a' := ?_) rfl rfl (any_of HT_.out (by kernel_rfl)) (fun _ _ _ h => h) (Or.inl ⟨by rfl, ?_⟩) ?_ ?_
         rotate_left
         ·intro w'; go_simp
          with_reducible rfl
         rotate_left
         ·simp only [nm_]; rfl
         refine lu_ (i := 13) (N := none) rfl rfl (one_of HT_.out (by kernel_rfl)) (by decide) (fun K hK => ?_)
         have hs37 : w35.cell? ⟨gb119, 2, none⟩ = some (u120002) := (zac BK119.out 2).trans rfl; have hfs37 := zak BK119.out 2; have hns37_0 := NB117_119.out; have hns37_1 := NB118_119.out; have hms37_0 := NB119_117.out; have hms37_1 := NB119_118.out; refine skip_ (w1 := ?_) (by rfl) rfl ?_ ?_
         rotate_left
         ·go_simp; rfl
         refine hK.out _ _ ?_; clear hK K; refine done_ (done_of HT_.out (by kernel_rfl)) ?_
         try go_wp2
         go_roundg k1
         case measure => have := HK1.out; omega
         case rel => exact ⟨(wrap64 (x4_1 + 1)), (y140), (.slice Ao36 y140.length co36), (by first | rfl | (simp; done) | (simp [*]; done)), H', ⟨by have := HK1.out; omega⟩, ⟨by (with_reducible repeat (first | apply Kd.zba | apply Kd.zbc | apply Kd.zbk)); exact Kd.zbg (Kd.R_far (p := ⟨gb119, 2, none⟩) (Kd.R_types HO_120000.out BK119.out (by decide)) (fun _ hk => hk.2) (.slice Ao36 y140.length co36)) (fun _ hk => trivial)⟩, ⟨by (with_reducible repeat (first | apply Kd.zba | apply Kd.zbc | apply Kd.zbk)); exact Kd.zbg (Kd.R_far (p := ⟨gb119, 2, none⟩) (Kd.R_types HO_120001.out BK119.out (by decide)) (fun _ hk => hk.2) (.slice Ao36 y140.length co36)) (fun _ hk => trivial)⟩, ⟨by (with_reducible repeat (first | apply Kd.S_alloc | apply Kd.S_drewN | apply Kd.S_drew)); exact Kd.S_mono (Kd.S_far (p := ⟨gb119, 2, none⟩) (Kd.S_types HO142.out BK119.out (by decide)) (fun _ hk => hk.2) (.slice Ao36 y140.length co36)) (fun _ hk => trivial)⟩, ⟨by (with_reducible repeat (first | apply zai | apply zaj | apply zad)); refine zaq ?_ NB117_119.out _; (with_reducible repeat (first | apply zai | apply zaj | apply zad)); exact BK117.out⟩, ⟨by (with_reducible repeat (first | apply zai | apply zaj | apply zad)); refine zaq ?_ NB118_119.out _; (with_reducible repeat (first | apply zai | apply zaj | apply zad)); exact BK118.out⟩, ⟨by (with_reducible repeat (first | apply zai | apply zaj | apply zad)); refine zar (cs := #[.slice Ao13 y123.length co13, .slice Ao20 y129.length co20, u120002]) ?_ 2 _ rfl; (with_reducible repeat (first | apply zai | apply zaj | apply zad)); exact BK119.out⟩, ⟨by repeat (first | (with_reducible first | exact HB.out | apply zab | apply zaa | apply zah | refine zae ?_ GE117.out | refine zae ?_ GE118.out | refine zae ?_ GE119.out) | exact HB.out)⟩⟩
        ·rw [if_neg c25] at H; exact absurd H (by simp)
       ·rw [if_neg c24] at H; exact absurd H (by simp)
      ·rw [if_neg c23] at H; exact absurd H (by simp)
     ·rw [if_neg c22] at H; have c22b0 : decide (x4_1 < (l0_2.length : Int)) = false := decide_eq_false c22; clear c22; simp only [Option.some.injEq, Prod.mk.injEq] at H; obtain ⟨rfl, rfl, rfl⟩ := H; have hnb38 := NB117_118.out; have hnc38 := NB118_117.out; have hnb39 := NB117_119.out; have hnc39 := NB119_117.out; have hcz40_0 : wr.cell? ⟨gb117, 0, none⟩ = some (.slice A0_0 l0_0.length c0_0) := (zac BK117.out 0).trans rfl; have hcz40_1 : wr.cell? ⟨gb117, 1, none⟩ = some (.slice A0_1 l0_1.length c0_1) := (zac BK117.out 1).trans rfl; have hcz40_2 : wr.cell? ⟨gb117, 2, none⟩ = some (.slice A0_2 l0_2.length c0_2) := (zac BK117.out 2).trans rfl; have hfz40_0 := zak BK117.out 0; have hfz40_1 := zak BK117.out 1; have hfz40_2 := zak BK117.out 2; have hnb41 := NB119_118.out; have hnc41 := NB118_119.out; have hcz42_0 : wr.cell? ⟨gb119, 0, none⟩ = some (.slice Ao13 y123.length co13) := (zac BK119.out 0).trans rfl; have hcz42_1 : wr.cell? ⟨gb119, 1, none⟩ = some (.slice Ao20 y129.length co20) := (zac BK119.out 1).trans rfl; have hcz42_2 : wr.cell? ⟨gb119, 2, none⟩ = some (u120002) := (zac BK119.out 2).trans rfl; have hfz42_0 := zak BK119.out 0; have hfz42_1 := zak BK119.out 1; have hfz42_2 := zak BK119.out 2; have hcz43_0 : wr.cell? ⟨gb118, 0, none⟩ = some (.slice none 0 0) := (zac BK118.out 0).trans rfl; have hcz43_1 : wr.cell? ⟨gb118, 1, none⟩ = some (.slice none 0 0) := (zac BK118.out 1).trans rfl; have hcz43_2 : wr.cell? ⟨gb118, 2, none⟩ = some (.slice none 0 0) := (zac BK118.out 2).trans rfl; have hfz43_0 := zak BK118.out 0; have hfz43_1 := zak BK118.out 1; have hfz43_2 := zak BK118.out 2; obtain ⟨Ao44, co44, eo44⟩ := Kd.S_slice HO_120002.out; subst eo44; go_wp2; refine bodyPost_ret (results_cell_row rfl _ _ gb118 51 #[.slice Ao13 y123.length co13, .slice Ao20 y129.length co20, .slice Ao44 x120002_1.length co44] (0, 0) _ rfl (by (with_reducible repeat (first | apply zai | apply zaj | apply zad)); refine zar (cs := #[.slice Ao13 y123.length co13, .slice Ao20 y129.length co20, .slice none 0 0]) ?_ 2 _ rfl; (with_reducible repeat (first | apply zai | apply zaj | apply zad)); refine zar (cs := #[.slice Ao13 y123.length co13, .slice none 0 0, .slice none 0 0]) ?_ 1 _ rfl; (with_reducible repeat (first | apply zai | apply zaj | apply zad)); refine zar (cs := #[.slice none 0 0, .slice none 0 0, .slice none 0 0]) ?_ 0 _ rfl; (with_reducible repeat (first | apply zai | apply zaj | apply zad)); exact BK118.out) Tryd.underlying51 rfl (by kernel_rfl)) rfl ?_
      exact ⟨_, _, _, by first | rfl | (simp [errW_none, errW_some] <;> rfl) | (simp [*, errW_none, errW_some] <;> rfl), by (with_reducible repeat (first | apply Kd.zba | apply Kd.zbc | apply Kd.zbk)); exact Kd.zbg (Kd.R_far (p := ⟨gb118, 2, none⟩) (Kd.R_far (p := ⟨gb118, 1, none⟩) (Kd.R_far (p := ⟨gb118, 0, none⟩) (Kd.R_types HO_120000.out BK118.out (by decide)) (fun _ hk => hk.2) (.slice Ao13 y123.length co13)) (fun _ hk => hk.2) (.slice Ao20 y129.length co20)) (fun _ hk => hk.2) (.slice Ao44 x120002_1.length co44)) (fun _ hk => trivial), by (with_reducible repeat (first | apply Kd.zba | apply Kd.zbc | apply Kd.zbk)); exact Kd.zbg (Kd.R_far (p := ⟨gb118, 2, none⟩) (Kd.R_far (p := ⟨gb118, 1, none⟩) (Kd.R_far (p := ⟨gb118, 0, none⟩) (Kd.R_types HO_120001.out BK118.out (by decide)) (fun _ hk => hk.2) (.slice Ao13 y123.length co13)) (fun _ hk => hk.2) (.slice Ao20 y129.length co20)) (fun _ hk => hk.2) (.slice Ao44 x120002_1.length co44)) (fun _ hk => trivial), by (with_reducible repeat (first | apply Kd.S_alloc | apply Kd.S_drewN | apply Kd.S_drew)); exact Kd.S_mono (Kd.S_far (p := ⟨gb118, 2, none⟩) (Kd.S_far (p := ⟨gb118, 1, none⟩) (Kd.S_far (p := ⟨gb118, 0, none⟩) (Kd.S_types HO_120002.out BK118.out (by decide)) (fun _ hk => hk.2) (.slice Ao13 y123.length co13)) (fun _ hk => hk.2) (.slice Ao20 y129.length co20)) (fun _ hk => hk.2) (.slice Ao44 x120002_1.length co44)) (fun _ hk => trivial), by repeat (first | (with_reducible first | exact HB.out | apply zab | apply zaa | apply zah | refine zae ?_ GE117.out | refine zae ?_ GE118.out | refine zae ?_ GE119.out) | exact HB.out)⟩
  ·rw [if_neg c3] at H; exact absurd H (by simp)
 ·rw [if_neg c2] at H; exact absurd H (by simp)
end Go.Proofs.YtcijanmckhlpiaaDoor.PTableBuilds
namespace Go.Proofs.YtcijanmckhlpiaaDoor
open Go.RowKit Go.Proofs.YtcijanmckhlpiaaDoorW.PrintWords Go.Proofs.YtcijanmckhlpiaaDoorW.PrintLast Go.Proofs.YtcijanmckhlpiaaDoorW.PrintMore Go.Proofs.YtcijanmckhlpiaaDoor.PTableBuilds
namespace Spr
open Bld (HD hdr kH kInt BR TRows bldR buildS goB rightB dots build_data fair_of zbf rowS rowS_len listN RetBuild TbOwn)
open Apt
theorem w64q {i : Nat} (h : i + 1 ≤ 9223372036854775807) : wrap64 ((i : Int) + 1) = ((i + 1 : Nat) : Int) := by unfold wrap64; omega
theorem rdL3_q {l : List (List Int)} {s : Nat} (h : s < l.length) : rd_L3 l s = l[s] := by
 unfold rd_L3; rw [Int.toNat_natCast, List.getD_eq_getElem?_getD, List.getElem?_eq_getElem h]; rfl
theorem rdL2_q {l : List (List S93)} {s : Nat} (h : s < l.length) : rd_L2 l s = l[s] := by
 unfold rd_L2; rw [Int.toNat_natCast, List.getD_eq_getElem?_getD, List.getElem?_eq_getElem h]; rfl
theorem rdT77_q {l : List S77} {s : Nat} (h : s < l.length) : zao l s = l[s] := by
 unfold zao; rw [Int.toNat_natCast, List.getD_eq_getElem?_getD, List.getElem?_eq_getElem h]; rfl
theorem take_succ_q {α : Type} {l : List α} {s : Nat} (h : s < l.length) : l.take s ++ [l[s]] = l.take (s + 1) := by
 rw [List.take_succ_eq_append_getElem h]
theorem twin_l1 (l : List (List S93)) (m : List (List Int)) (r0 : List (List S93)) (hm : m.length ≤ 1000000) (hr : ∀ x ∈ m, x.length ≤ 1000000) : ∀ (d s : Nat), m.length - s = d → s ≤ m.length → Ev (fun k => trellislaw13_twin.l1 k s l m r0 (m.take s)) (r0, m) := by
 intro d
 induction d with
 | zero =>
  intro s hd hs; refine Ev.step (f := fun _ => some (r0, m)) (fun k => ?_) (Ev.now _)
  simp only [trellislaw13_twin.l1]; rw [if_neg (by omega), List.take_of_length_le (by omega)]
 | succ d ih =>
  intro s hd hs; have hlt : s < m.length := by omega
  refine Ev.step (fun k => ?_) (ih (s + 1) (by omega) (by omega))
  have h1 := hr _ (List.getElem_mem hlt); simp only [trellislaw13_twin.l1, Option.bind_some]; rw [if_pos (by omega), if_pos (by omega), rdL3_q hlt, if_pos (by simp; omega), if_pos (by rw [List.length_take]; omega), w64q (by omega), List.nil_append, take_succ_q hlt]
theorem twin_l0 (l : List (List S93)) (m : List (List Int)) (hl : l.length ≤ 1000000) (hrl : ∀ x ∈ l, x.length ≤ 1000000) (hm : m.length ≤ 1000000) (hr : ∀ x ∈ m, x.length ≤ 1000000) : ∀ (d s : Nat), l.length - s = d → s ≤ l.length → Ev (fun k => trellislaw13_twin.l0 k s l m (l.take s)) (l, m) := by
 intro d
 induction d with
 | zero =>
  intro s hd hs; refine Ev.step (fun k => ?_) (twin_l1 l m l hm hr _ 0 rfl (Nat.zero_le _))
  simp only [trellislaw13_twin.l0]; rw [if_neg (by omega), List.take_of_length_le (by omega)]
  rfl
 | succ d ih =>
  intro s hd hs; have hlt : s < l.length := by omega
  refine Ev.step (fun k => ?_) (ih (s + 1) (by omega) (by omega))
  have h1 := hrl _ (List.getElem_mem hlt); simp only [trellislaw13_twin.l0, Option.bind_some]; rw [if_pos (by omega), if_pos (by omega), rdL2_q hlt, if_pos (by simp; omega), if_pos (by rw [List.length_take]; omega), w64q (by omega), List.nil_append, take_succ_q hlt]
theorem twin_ev (l : List (List S93)) (m : List (List Int)) (hl : l.length ≤ 1000000) (hrl : ∀ x ∈ l, x.length ≤ 1000000) (hm : m.length ≤ 1000000) (hr : ∀ x ∈ m, x.length ≤ 1000000) : Ev (fun k => trellislaw13_twin.f k l m) (l, m) := twin_l0 l m hl hrl hm hr _ 0 rfl (Nat.zero_le _)
theorem gram_l0 (l : List S112) (m : List S115) (ps : List S77) (hp : ps.length ≤ 1000000000) (hr : ∀ x ∈ ps, x.f1.length ≤ 1000000000) : ∀ (d s : Nat), ps.length - s = d → s ≤ ps.length → Ev (fun k => trellislaw13_twinGram.l0 k s l m ps l m (ps.take s)) (l, m, ps) := by
 intro d
 induction d with
 | zero =>
  intro s hd hs; refine Ev.step (f := fun _ => some (l, m, ps)) (fun k => ?_) (Ev.now _)
  simp only [trellislaw13_twinGram.l0]; rw [if_neg (by omega), List.take_of_length_le (by omega)]
 | succ d ih =>
  intro s hd hs; have hlt : s < ps.length := by omega
  refine Ev.step (fun k => ?_) (ih (s + 1) (by omega) (by omega))
  have h1 := hr _ (List.getElem_mem hlt); simp only [trellislaw13_twinGram.l0, Option.bind_some]; rw [if_pos (by omega), if_pos (by omega), rdT77_q hlt, if_pos (by simp; omega), if_pos (by rw [List.length_take]; omega), w64q (by omega), List.nil_append, take_succ_q hlt]
theorem gram_ev (l : List S112) (m : List S115) (ps : List S77) (hl : l.length ≤ 1000000000) (hm : m.length ≤ 1000000000) (hp : ps.length ≤ 1000000000) (hr : ∀ x ∈ ps, x.f1.length ≤ 1000000000) : Ev (fun k => trellislaw13_twinGram.f k l m ps) (l, m, ps) := by
 refine Ev.congr (f := fun k => trellislaw13_twinGram.l0 k ((0 : Nat) : Int) l m ps l m (ps.take 0)) (fun k => ?_) (gram_l0 l m ps hp hr _ 0 rfl (Nat.zero_le _))
 simp only [trellislaw13_twinGram.f, Option.bind_some, List.length_nil, Nat.zero_add]; rw [if_pos (by omega), if_pos (by omega)]
 rfl
def rowsOf : BR → TRows
 | .inl r => r
 | .inr _ => ([], [])
def codeOf : BR → Int
 | .inl _ => 0
 | .inr c => c.1
theorem goB_len (T M : Nat) (ps : List S77) : ∀ (ss : List (List S178)) (gs : List (List Int)) (i : Nat) (acc r : TRows), (∀ g ∈ gs, g.length = T + M) → goB T ps ss gs i acc = .inl r →
  r.1.length = acc.1.length + ss.length ∧ r.2.length = acc.2.length + ss.length ∧ (∀ x ∈ r.1, x ∈ acc.1 ∨ x.length = T) ∧ ∀ x ∈ r.2, x ∈ acc.2 ∨ x.length ≤ M
 | [], gs, i, acc, r, hg, h => by
  simp only [goB, Sum.inl.injEq] at h; subst h; exact ⟨rfl, rfl, fun x hx => .inl hx, fun x hx => .inl hx⟩
 | s :: ss, gs, i, acc, r, hg, h => by
  simp only [goB] at h
  split at h
  ·cases h
  ·obtain ⟨h1, h2, h3, h4⟩ := goB_len T M ps ss gs (i + 1) _ r hg h; refine ⟨by rw [h1]; simp; omega, by rw [h2]; simp; omega, fun x hx => ?_, fun x hx => ?_⟩
   ·rcases h3 x hx with h3 | h3
    ·rcases List.mem_append.1 h3 with h3 | h3
     ·exact .inl h3
     ·rw [List.mem_singleton.1 h3]; exact .inr (rowS_len T ps s _)
    ·exact .inr h3
   ·rcases h4 x hx with h4 | h4
    ·rcases List.mem_append.1 h4 with h4 | h4
     ·exact .inl h4
     ·rw [List.mem_singleton.1 h4]; refine .inr ?_; rw [List.length_drop, List.getD_eq_getElem?_getD]; cases hx : gs[i]? with
      | none => simp
      | some g => have := hg g (List.mem_of_getElem? hx); simp; omega
    ·exact .inr h4
structure Small (r : TRows) : Prop where
 l1 : r.1.length ≤ 2048
 l2 : r.2.length ≤ 2048
 r1 : ∀ x ∈ r.1, x.length ≤ 64
 r2 : ∀ x ∈ r.2, x.length ≤ 128
theorem small_nil : Small ([], []) := ⟨Nat.zero_le _, Nat.zero_le _, fun x hx => by simp at hx, fun x hx => by simp at hx⟩
theorem bldR_small (T M : Nat) (ps : List S77) : Small (rowsOf (bldR T M ps)) := by
 unfold bldR; by_cases h : rightB T M ps = true ∧ dots ps ≤ 1048576
 ·rw [dif_pos h]; have hf := fair_of h.1 h.2; have hs := (build_data hf.1 hf.2).choose_spec.choose_spec.2.2.2.2.choose_spec.choose_spec.choose_spec.2; generalize (build_data (fair_of h.1 h.2).1 (fair_of h.1 h.2).2).choose_spec.choose_spec.2.2.2.2.choose_spec.choose_spec.choose = res at *; generalize zbf _ _ 0 ps = sp at *; cases res with
  | none => exact small_nil
  | some p =>
   obtain ⟨ss, gs⟩ := p; have hok := hs ss gs rfl; show Small (rowsOf (goB T ps (ss.map fun s => listN sp s s.length) gs 0 ([], [])))
   cases hb : goB T ps (ss.map fun s => listN sp s s.length) gs 0 ([], []) with
   | inr c => exact small_nil
   | inl r =>
    obtain ⟨h1, h2, h3, h4⟩ := goB_len T M ps _ gs 0 ([], []) r hok.row hb; have := hok.most; have := hf.1.t64; have := hf.1.m128; simp only [List.length_map, List.length_nil] at h1 h2; refine ⟨by show r.1.length ≤ _; omega, by show r.2.length ≤ _; omega, fun x hx => ?_, fun x hx => ?_⟩
    ·rcases h3 x hx with h3 | h3
     ·cases h3
     ·omega
    ·rcases h4 x hx with h4 | h4
     ·cases h4
     ·omega
 ·rw [dif_neg h]; exact small_nil
theorem ret_own {w w' : World} {res : BR} {e : Ending} (h : RetBuild w res e w') : Below w.heap.size w w' ∧ ∃ A c B d s t, e = .returned (.tuple #[.agg #[.slice A (rowsOf res).1.length c, .slice B (rowsOf res).2.length d], .int .i64 (codeOf res), .int .i64 s, .int .i64 t]) ∧ TbOwn w' w.heap.size (.slice A (rowsOf res).1.length c) (.slice B (rowsOf res).2.length d) (rowsOf res).1 (rowsOf res).2 := by
 refine ⟨h.1, ?_⟩; have h2 := h.2
 match res, h2 with
 | .inl (rows, gos), h2 =>
  obtain ⟨A, c, B, d, e1, ho⟩ := h2; exact ⟨A, c, B, d, 0, 0, e1, ho⟩
 | .inr (code, s, t), h2 =>
  exact ⟨none, 0, none, 0, s, t, h2, ⟨[], [], Kd.R_nil _ _ _ _ _, Bld.Rows.empty, Kd.R_nil _ _ _ _ _, Bld.Rows.empty⟩⟩
structure Acc (e sz lo hi : Nat) (W : World) (hs : List HD) : Prop where
 rw : ∃ xs, Rws e sz lo W hs xs
 ap : Aparts hs
 lt : ∀ (j : Nat) (h : HD) (k : Nat), hs[j]? = some h → (hdr h).ownBlock = some k → k < hi
section
variable {e sz lo hi lo' hi' : Nat} {W W' : World} {hs hs' : List HD}
theorem own_lower {n : Nat} {v : Value} {xs : List Value} (h : W.ownsRow lo e sz v n xs) (hb : lo' ≤ lo) : W.ownsRow lo' e sz v n xs := by
 rcases h.2 with ⟨e1, e2⟩ | ⟨g, cap, cur, hv, hbb, r⟩
 ·exact ⟨h.1, .inl ⟨e1, e2⟩⟩
 ·exact ⟨h.1, .inr ⟨g, cap, cur, hv, Nat.le_trans hb hbb, r⟩⟩
theorem Acc.ge (H : Acc e sz lo hi W hs) {j : Nat} {h : HD} {k : Nat} (hj : hs[j]? = some h) (hk : (hdr h).ownBlock = some k) : lo ≤ k ∧ k < W.heap.size := by
 obtain ⟨xs, hr⟩ := H.rw; obtain ⟨x, hx, ho⟩ := hr.get hj; have := zbp ho k hk; exact ⟨this.1, this.2.1⟩
theorem Acc.below (H : Acc e sz lo hi W hs) (hb : Below W.heap.size W W') : Acc e sz lo hi W' hs := by
 obtain ⟨xs, hr⟩ := H.rw; exact ⟨⟨xs, hr.same (fun j h k hj hk => hb.block k (H.ge hj hk).2)⟩, H.ap, H.lt⟩
theorem Acc.none : Acc e sz lo hi W [] := ⟨⟨[], rfl, fun j h xs hj => by simp at hj⟩, fun i j h h' _ hi => by simp at hi, fun j h k hj => by simp at hj⟩
theorem Acc.cons (H : Acc e sz lo hi W hs) (H' : Acc e sz lo' hi' W hs') (h1 : hi ≤ lo') (h2 : lo ≤ lo') (h3 : hi ≤ hi') : Acc e sz lo hi' W (hs ++ hs') := by
 obtain ⟨xs, hr⟩ := H.rw; obtain ⟨ys, hr'⟩ := H'.rw; have key : ∀ (j : Nat) (h : HD), (hs ++ hs')[j]? = some h → (j < hs.length ∧ hs[j]? = some h) ∨ (hs.length ≤ j ∧ hs'[j - hs.length]? = some h) := fun j h hj => by
  rcases Nat.lt_or_ge j hs.length with c | c
  ·rw [List.getElem?_append_left c] at hj; exact .inl ⟨c, hj⟩
  ·rw [List.getElem?_append_right c] at hj; exact .inr ⟨c, hj⟩
 refine ⟨⟨xs ++ ys, by rw [List.length_append, List.length_append, hr.len, hr'.len], fun j h zs hj hz => ?_⟩, fun i j h h' hij hi hj => ?_, fun j h k hj hk => ?_⟩
 ·rcases key j h hj with ⟨c, hj⟩ | ⟨c, hj⟩
  ·rw [List.getElem?_append_left (by rw [hr.len]; exact c)] at hz
   exact hr.row j h zs hj hz
  ·rw [List.getElem?_append_right (by rw [hr.len]; exact c), hr.len] at hz
   exact own_lower (hr'.row _ h zs hj hz) h2
 ·rcases key i h hi with ⟨c, hi⟩ | ⟨c, hi⟩
  ·rcases key j h' hj with ⟨d, hj⟩ | ⟨d, hj⟩
   ·exact H.ap i j h h' hij hi hj
   ·intro k hk hk'; have := H.lt i h k hi hk; have := (H'.ge hj hk').1; omega
  ·rcases key j h' hj with ⟨d, hj⟩ | ⟨d, hj⟩
   ·intro k hk hk'; have := H.lt j h' k hj hk'; have := (H'.ge hi hk).1; omega
   ·exact H'.ap _ _ h h' (by omega) hi hj
 ·rcases key j h hj with ⟨c, hj⟩ | ⟨c, hj⟩
  ·have := H.lt j h k hj hk; omega
  ·exact H'.lt _ h k hj hk
theorem Acc.of_rows {α : Type} {k : Kd α} {t : Nat} {rows : List (List α)} (h : Bld.Rows k t W lo (hs.map hdr) rows) : Acc t k.sz lo W.heap.size W hs := by
 obtain ⟨xss, h1, h2⟩ := rws_of h; refine ⟨⟨xss, h1⟩, h2, fun j h k hj hk => ?_⟩
 obtain ⟨x, hx, ho⟩ := h1.get hj; exact (zbp ho k hk).2.1
theorem rows_bound {α : Type} {k : Kd α} {t n : Nat} {rows : List (List α)} (h : Bld.Rows k t W lo (hs.map hdr) rows) (hb : ∀ x ∈ rows, x.length ≤ n) : ∀ x ∈ hs, x.2.1 ≤ n := fun x hx => by
 obtain ⟨j, hj, e⟩ := List.getElem_of_mem hx; have hl := h.len; rw [List.length_map] at hl; have hR := h.row j (hdr x) rows[j] (by rw [List.getElem?_map, List.getElem?_eq_getElem hj, e]; rfl) (List.getElem?_eq_getElem (by omega))
 obtain ⟨A, c, e1, _, _⟩ := Kd.zbe hR; have e2 : x.2.1 = (rows[j]'(by omega)).length := by unfold hdr at e1; injection e1
 rw [e2]; exact hb _ (List.getElem_mem _)
end
structure Tb (lo hi : Nat) (W : World) (vA vG : Value) (hA hG : List HD) : Prop where
 A : kH.R 90 W lo Bld.tru vA hA
 G : kH.R 95 W lo Bld.tru vG hG
 aA : Acc 93 2 lo hi W hA
 aG : Acc 3 1 lo hi W hG
 lA : hA.length ≤ 2048
 lG : hG.length ≤ 2048
 bA : ∀ h ∈ hA, h.2.1 ≤ 4194304
 bG : ∀ h ∈ hG, h.2.1 ≤ 4194304
theorem Tb.below {lo hi : Nat} {W W' : World} {vA vG : Value} {hA hG : List HD} (H : Tb lo hi W vA vG hA hG) (hb : Below W.heap.size W W') : Tb lo hi W' vA vG hA hG :=
 ⟨Kd.zbi H.A hb, Kd.zbi H.G hb, H.aA.below hb, H.aG.below hb, H.lA, H.lG, H.bA, H.bG⟩
theorem tb_of {α : Type} {k : Kd α} {W : World} {base : Nat} {vA vG : Value} {hA hG : List HD} {rows : List (List α)} {gos : List (List Int)} (h1 : kH.R 90 W base Bld.tru vA hA) (h2 : Bld.Rows k 93 W base (hA.map hdr) rows) (h3 : kH.R 95 W base Bld.tru vG hG) (h4 : Bld.Rows kInt 3 W base (hG.map hdr) gos) (hk : k.sz = 2)
  (l1 : rows.length ≤ 2048) (l2 : gos.length ≤ 2048) (r1 : ∀ x ∈ rows, x.length ≤ 4194304) (r2 : ∀ x ∈ gos, x.length ≤ 4194304) : Tb base W.heap.size W vA vG hA hG := by
 have e1 := h2.len; have e2 := h4.len; rw [List.length_map] at e1 e2; have a1 := Acc.of_rows h2; rw [hk] at a1; exact ⟨h1, h3, a1, Acc.of_rows h4, by omega, by omega, rows_bound h2 r1, rows_bound h4 r2⟩
theorem TbOwn.tb {W : World} {base : Nat} {vA vG : Value} {r : TRows} (h : TbOwn W base vA vG r.1 r.2) (hs : Small r) : ∃ hA hG, Tb base W.heap.size W vA vG hA hG := by
 obtain ⟨hA, hG, h1, h2, h3, h4⟩ := h.own; exact ⟨hA, hG, tb_of h1 h2 h3 h4 rfl hs.l1 hs.l2 (fun x hx => by have := hs.r1 x hx; omega) (fun x hx => by have := hs.r2 x hx; omega)⟩
end Spr
end Go.Proofs.YtcijanmckhlpiaaDoor
namespace Go.Proofs.YtcijanmckhlpiaaDoor
open Go.RowKit Go.Proofs.YtcijanmckhlpiaaDoorW.PrintWords Go.Proofs.YtcijanmckhlpiaaDoorW.PrintLast Go.Proofs.YtcijanmckhlpiaaDoorW.PrintMore Go.Proofs.YtcijanmckhlpiaaDoor.PTableBuilds
namespace Bld
def gT : List S112 := [⟨⟨#[]⟩, false⟩, ⟨⟨#[97]⟩, false⟩]
def gM : List S115 := [⟨⟨#[115]⟩, 1⟩]
def rfA : S110 := ⟨1, ⟨#[]⟩, ⟨#[]⟩⟩
def rfB : S110 := ⟨2, ⟨#[]⟩, ⟨#[]⟩⟩
def gP : List S77 := [⟨-1, [rfB]⟩, ⟨0, [rfA, rfB]⟩, ⟨0, []⟩]
def sol : FV := (solveN 2 gP 5 (initF 2, noV)).getD ([], [])
def spA : List S230 := zbf sol.1 sol.2 0 gP
def ssA : List (List Nat) := [[1, 0, 1, 0, 0, 1], [0, 0, 1, 1, 0, 1], [0, 1, 0, 0, 0, 0], [0, 0, 0, 0, 1, 0]]
def gsA : List (List Int) := [[-1, 1, 2], [-1, 1, 3], [-1, -1, -1], [-1, -1, -1]]
def rowsAw : List (List S93) := [[⟨2, 2⟩, ⟨1, 1⟩], [⟨2, 2⟩, ⟨1, 1⟩], [⟨3, 0⟩, ⟨0, 0⟩], [⟨2, 1⟩, ⟨0, 0⟩]]
def gosAw : List (List Int) := [[2], [3], [-1], [-1]]
set_option maxRecDepth 100000
theorem aw_sol : solveN gT.length gP 5 (initF gT.length, noV) = some sol := by decide +kernel
theorem aw_fit : Fit sol := ⟨by decide +kernel, by decide +kernel, by decide +kernel⟩
theorem aw_fair : Fair gT.length gM.length gP := ⟨by decide, by decide, by decide, by decide +kernel, by decide +kernel, by decide +kernel⟩
theorem aw_right : items_right.f 40 gT gM gP = some true := by decide +kernel
theorem aw_fitB : FitB gT.length gM.length spA (ofAll gM.length gP) := ⟨by decide +kernel, by decide +kernel, by decide +kernel, by decide +kernel, by decide +kernel⟩
theorem aw_nx : ∀ i, i + 1 = spA.length → (rdSp spA i).f2 < 0 := fun i hi => by
 have e : spA.length = 6 := by decide +kernel
 have h5 : i = 5 := by omega
 subst h5; decide +kernel
theorem aw_sets : setsN gT.length gM.length spA (ofAll gM.length gP) 200 20 = some (some (ssA, gsA)) := by decide +kernel
theorem aw_build : buildS gT.length gP spA (some (ssA, gsA)) = .inl (rowsAw, gosAw) := by kernel_rfl
theorem aw_ok : ∀ ss gs, some (ssA, gsA) = some (ss, gs) → SetsOk gT.length gM.length gP spA ss gs := fun ss gs h => by
 cases h; refine ⟨rfl, by decide, ?_, ?_⟩
 ·have h1 : ∀ s ∈ ssA, (∀ x ∈ listN spA s s.length, 0 ≤ x.f0 ∧ x.f0 < gP.length ∧ 0 ≤ x.f2 ∧ x.f2 < gT.length) ∧ (listN spA s s.length).length ≤ 1099511627776 := by decide +kernel
  exact h1
 ·decide +kernel
end Bld
end Go.Proofs.YtcijanmckhlpiaaDoor
namespace Go.Proofs.YtcijanmckhlpiaaDoor
open Go.RowKit Go.Proofs.YtcijanmckhlpiaaDoorW.PrintWords Go.Proofs.YtcijanmckhlpiaaDoorW.PrintLast Go.Proofs.YtcijanmckhlpiaaDoorW.PrintMore
namespace Dec
def cnt (s : ByteArray) : Nat → Nat → Int → Nat → Option (Int × Nat)
 | 0, _, _, _ => none
 | f + 1, k, n, p => if p < s.size then
   (if bt s p < 128 then (if bt s p = 0 ∧ 0 < k then none else some (n + bt s p % 128 * 2 ^ (7 * k), p + 1))
    else cnt s f (k + 1) (n + bt s p % 128 * 2 ^ (7 * k)) (p + 1)) else none
def num (s : ByteArray) (p : Nat) : Option (Int × Nat) := cnt s 9 0 0 p
theorem cnt_bound (s : ByteArray) : ∀ (f k : Nat) (n : Int) (p : Nat) (r : Int × Nat), f + k = 9 → 0 ≤ n → n < 2 ^ (7 * k) → cnt s f k n p = some r → 0 ≤ r.1 ∧ r.1 < 9223372036854775808 ∧ p < r.2 ∧ r.2 ≤ s.size := by
 intro f
 induction f with
 | zero => intro k n p r _ _ _ h; simp [cnt] at h
 | succ f ih =>
  intro k n p r hk h0 h1 h; have hb := bt_range s p; have hp : (2 : Int) ^ (7 * (k + 1)) = 128 * 2 ^ (7 * k) := by rw [show 7 * (k + 1) = 7 * k + 7 by omega, Int.pow_add]; omega
  have hq : (0 : Int) < 2 ^ (7 * k) := Int.pow_pos (by decide)
  have hm : n + bt s p % 128 * 2 ^ (7 * k) < 2 ^ (7 * (k + 1)) := by
   rw [hp]; have : bt s p % 128 * 2 ^ (7 * k) ≤ 127 * 2 ^ (7 * k) := Int.mul_le_mul_of_nonneg_right (by omega) (by omega)
   omega
  have hn0 : 0 ≤ n + bt s p % 128 * 2 ^ (7 * k) := by
   have : 0 ≤ bt s p % 128 * 2 ^ (7 * k) := Int.mul_nonneg (by omega) (by omega)
   omega
  have hle : (2 : Int) ^ (7 * (k + 1)) ≤ 2 ^ 63 := by
   have h9 : (2 : Nat) ^ (7 * (k + 1)) ≤ 2 ^ 63 := Nat.pow_le_pow_right (by decide) (by omega)
   exact_mod_cast h9
  unfold cnt at h
  split at h
  ·split at h
   ·split at h
    ·cases h
    ·cases h; exact ⟨hn0, by omega, by simp, by simpa using by omega⟩
   ·obtain ⟨a, b, c, d⟩ := ih (k + 1) _ (p + 1) r (by omega) hn0 hm h
    exact ⟨a, b, by omega, d⟩
  ·cases h
theorem num_bound {s : ByteArray} {p : Nat} {r : Int × Nat} (h : num s p = some r) : 0 ≤ r.1 ∧ r.1 < 9223372036854775808 ∧ p < r.2 ∧ r.2 ≤ s.size := cnt_bound s 9 0 0 p r rfl (Int.le_refl 0) (by decide) h
theorem i64_or_add (n m : Int) (j : Nat) (h0 : 0 ≤ n) (hn : n < 2 ^ j) (h1 : 0 ≤ m) (hm : m % 2 ^ j = 0) (hs : n + m < 9223372036854775808) : bits .or .i64 n m = n + m := by
 obtain ⟨a, rfl⟩ := Int.eq_ofNat_of_zero_le h0; obtain ⟨b, rfl⟩ := Int.eq_ofNat_of_zero_le h1; have ha : a < 2 ^ j := by
  have : ((2 ^ j : Nat) : Int) = (2 : Int) ^ j := by simp
  omega
 have hb : b % 2 ^ j = 0 := by
  have : ((2 ^ j : Nat) : Int) = (2 : Int) ^ j := by simp
  rw [← this] at hm
  exact_mod_cast hm
 have hx : b ||| a = b + a := nat_join j b a hb ha; show IntKind.i64.wrap ((BitVec.ofInt 64 (a : Int) ||| BitVec.ofInt 64 (b : Int)).toNat : Int) = _; rw [BitVec.toNat_or, ofInt_u64 a (by omega), ofInt_u64 b (by omega), Nat.or_comm, hx, IntWalk.i64_in _ (by omega)]
 omega
end Dec
end Go.Proofs.YtcijanmckhlpiaaDoor
namespace Go.Proofs.YtcijanmckhlpiaaDoor
open Go.RowKit Go.Proofs.YtcijanmckhlpiaaDoorW.PrintWords Go.Proofs.YtcijanmckhlpiaaDoorW.PrintLast Go.Proofs.YtcijanmckhlpiaaDoorW.PrintMore
namespace Dec
def IsR (w0 W : World) (g : Nat) (s : ByteArray) (p : Nat) : Prop := W.heap[g]? = some (.cells #[.string s, .int .i64 (p : Int)] 83 (0, 0)) ∧ w0.heap.size ≤ g
theorem IsR.set {w0 W : World} {g p : Nat} {s : ByteArray} (h : IsR w0 W g s p) (q : Nat) : IsR w0 (W.setCell ⟨g, 1, none⟩ (.int .i64 (q : Int))) g s q := ⟨blk_set h.1 1 _, h.2⟩
theorem IsR.below {w0 W W1 : World} {g p : Nat} {s : ByteArray} (h : IsR w0 W g s p) (hb : Below W.heap.size W W1) : IsR w0 W1 g s p := ⟨zas h.1 (grown_of_below hb none) (by simp), h.2⟩
theorem IsR.drewN {w0 W : World} {g p : Nat} {s : ByteArray} (h : IsR w0 W g s p) (n : Nat) : IsR w0 (W.drewN n) g s p := h
abbrev noCount : Value := .iface 190 (.string { data := #[110, 111, 32, 99, 111, 117, 110, 116] })
def NumE (o : Option (Int × Nat)) (e : Ending) (q : Nat) : Prop := match o with
 | some r => e = .returned (.tuple #[.int .i64 r.1, .nilIface]) ∧ q = r.2
 | none => e = .returned (.tuple #[.int .i64 0, noCount])
structure Rel (w0 w w' : World) (g : Nat) (s : ByteArray) (q : Nat) : Prop where
 is : IsR w0 w' g s q
 below : Below w0.heap.size w0 w'
 keep : zbn w w' g none
theorem or_val (k : Nat) (n : Int) (b : Int) (hk : k ≤ 8) (h0 : 0 ≤ n) (h1 : n < 2 ^ (7 * k)) (b0 : 0 ≤ b) (b1 : b < 256) :
  bits .or .i64 n (wrap64 (wrap64 (bits .and .u8 b 127) * 2 ^ (7 * k))) = n + b % 128 * 2 ^ (7 * k) := by
 have hq : (0 : Int) < 2 ^ (7 * k) := Int.pow_pos (by decide)
 have h9 : (2 : Nat) ^ (7 * k) ≤ 2 ^ 56 := Nat.pow_le_pow_right (by decide) (by omega)
 have h8 : (2 : Int) ^ (7 * k) ≤ 2 ^ 56 := by exact_mod_cast h9
 have hm : b % 128 * 2 ^ (7 * k) ≤ 127 * 2 ^ (7 * k) := Int.mul_le_mul_of_nonneg_right (by omega) (by omega)
 have hm0 : 0 ≤ b % 128 * 2 ^ (7 * k) := Int.mul_nonneg (by omega) (by omega)
 rw [u8_and127 b b0 b1, IntWalk.wrap64_in (b % 128) (by omega), IntWalk.wrap64_in _ (by omega)]
 exact i64_or_add n _ (7 * k) h0 h1 hm0 (Int.mul_emod_left _ _) (by omega)
theorem cnt_next {s : ByteArray} {k q : Nat} {n : Int} (hk : k < 9) (hq : q < s.size) (hb : ¬ bt s q < 128) : cnt s (9 - k) k n q = cnt s (9 - (k + 1)) (k + 1) (n + bt s q % 128 * 2 ^ (7 * k)) (q + 1) := by
 rw [show 9 - k = (9 - (k + 1)) + 1 by omega]
 conv => lhs; unfold cnt
 rw [if_pos hq, if_neg hb]
theorem cnt_last {s : ByteArray} {k q : Nat} {n : Int} (hk : k < 9) (hq : q < s.size) (hb : bt s q < 128) : cnt s (9 - k) k n q = if bt s q = 0 ∧ 0 < k then none else some (n + bt s q % 128 * 2 ^ (7 * k), q + 1) := by
 rw [show 9 - k = (9 - (k + 1)) + 1 by omega]
 conv => lhs; unfold cnt
 rw [if_pos hq, if_pos hb]
theorem cnt_end {s : ByteArray} {k q : Nat} {n : Int} (hq : ¬ q < s.size) : cnt s (9 - k) k n q = none := by
 rcases Nat.lt_or_ge k 9 with h | h
 ·rw [show 9 - k = (9 - (k + 1)) + 1 by omega]
  unfold cnt; rw [if_neg hq]
 ·rw [show 9 - k = 0 by omega]; rfl
theorem step_bound {k : Nat} {n b : Int} (h0 : 0 ≤ n) (h1 : n < 2 ^ (7 * k)) : 0 ≤ n + b % 128 * 2 ^ (7 * k) ∧ n + b % 128 * 2 ^ (7 * k) < 2 ^ (7 * (k + 1)) := by
 have hp : (2 : Int) ^ (7 * (k + 1)) = 128 * 2 ^ (7 * k) := by rw [show 7 * (k + 1) = 7 * k + 7 by omega, Int.pow_add]; omega
 have hq : (0 : Int) < 2 ^ (7 * k) := Int.pow_pos (by decide)
 have hm : b % 128 * 2 ^ (7 * k) ≤ 127 * 2 ^ (7 * k) := Int.mul_le_mul_of_nonneg_right (by omega) (by omega)
 have hm0 : 0 ≤ b % 128 * 2 ^ (7 * k) := Int.mul_nonneg (by omega) (by omega)
 rw [hp]; omega
theorem Rel.step {w0 w W : World} {g q : Nat} {s : ByteArray} (h : Rel w0 w W g s q) (m : Nat) (r : Nat) : Rel w0 w ((W.drewN m).setCell ⟨g, 1, none⟩ (.int .i64 (r : Int))) g s r :=
 ⟨(h.is.drewN m).set r, zae (zaa h.below m) h.is.2, zbn.set_ (keep_drewN h.keep m) 1 _⟩
set_option maxRecDepth 100000 in
set_option maxHeartbeats 4000000 in
theorem number_any (s : ByteArray) (g p : Nat) (w0 w : World) (hI : IsR w0 w g s p) (hB : Below w0.heap.size w0 w) (hs : s.size ≤ 140737488351232) (hp : p ≤ s.size) :
  Calls Tryd.prog 78 #[.pointer (some ⟨g, 0, none⟩)] w fun e w' => ∃ q, q ≤ s.size ∧ Rel w0 w w' g s q ∧ NumE (num s p) e q := by
 have HR : Hid (Rel w0 w w g s p) := ⟨hI, hB, zbn.refl _ _ _⟩; clear hI hB
 go_enter Tryd.func78, Tryd.ntmps78
 go_wp2
 go_loopw [4, 5] (fun nv sv w' => ∃ (k q : Nat) (n : Int), k ≤ 9 ∧ q ≤ s.size ∧ sv = .int .i64 ((7 * k : Nat) : Int) ∧ nv = .int .i64 n ∧ 0 ≤ n ∧ n < 2 ^ (7 * k) ∧ Hid (Rel w0 w w' g s q) ∧ Hid (cnt s (9 - k) k n q = num s p)) (fun _ sv _ => 63 - (intOf sv).toNat)
 case atStart => exact ⟨0, p, 0, by omega, hp, rfl, rfl, by decide, by decide, HR, Lib.hid rfl⟩
 case round =>
  clear HR; obtain ⟨k, q, n, hk, hq, rfl, rfl, h0, h1, HR, HC⟩ := hrel; have hz0 := (zac HR.out.is.1 0); have hz1 := (zac HR.out.is.1 1); have hf1 := (zak HR.out.is.1 1); simp at hz0 hz1; by_cases hk9 : k < 9
  ·by_cases hqs : q < s.size
   ·have hqb : decide ((s.size : Int) ≤ (q : Int)) = false := decide_eq_false (by omega)
    have hbt : bt s (q : Int) = ((s[q]'hqs).toNat : Int) := (bt_at s (q : Int) (by simpa using hqs)).symm
    have hb8 : (s[q]'hqs).toNat < 256 := UInt8.toNat_lt _; have HBT := Lib.hid hbt; clear hbt; have hq0 : (0 : Int) ≤ (q : Int) := by omega
    have hq1 : (q : Int) < (s.size : Int) := by omega
    have hq2 : IntKind.i64.wrap ((q : Int) + 1) = (q : Int) + 1 := IntWalk.i64_in _ (by omega)
    have HV := Lib.hid (or_val k n ((s[q]'hqs).toNat : Int) (by omega) h0 h1 (by omega) (by omega))
    have HS := Lib.hid (step_bound (b := bt s q) h0 h1); have HR2 := fun m => Lib.hid (HR.out.step m (q + 1))
    by_cases hlow : ((s[q]'hqs).toNat : Int) < 128
    ·have hl := cnt_last (n := n) hk9 hqs (by rw [HBT.out]; exact hlow)
     rw [HC.out] at hl; have HL := Lib.hid hl; clear hl; by_cases hz : (s[q]'hqs).toNat = 0
     ·by_cases hk0 : 0 < k
      ·have hk0' : (0 : Int) < 7 * (k : Int) := by omega
       have hN : num s p = none := by rw [HL.out, if_pos ⟨by rw [HBT.out, hz]; rfl, hk0⟩]
       have HN := Lib.hid hN; clear hN; go_wp2
       go_quiet (fail)
       go_wp2
       go_quiet (fail)
       go_wp2
       go_ret2
       exact ⟨q + 1, by omega, (HR2 _).out, by rw [HN.out]; rfl⟩
      ·obtain rfl : k = 0 := by omega
       have hN := HL.out; rw [if_neg (by omega), HBT.out, ← HV.out, show (2 : Int) ^ (7 * 0) = 1 from rfl, Int.mul_one] at hN
       have HN := Lib.hid hN; rw [hz] at HN; clear hN; go_wp2
       go_quiet (fail)
       go_wp2
       go_quiet (fail)
       go_wp2
       go_ret2
       exact ⟨q + 1, by omega, (HR2 _).out, by rw [HN.out]; exact ⟨rfl, rfl⟩⟩
     ·have hN := HL.out; rw [if_neg (by rw [HBT.out]; omega), HBT.out, ← HV.out] at hN
      have HN := Lib.hid hN; clear hN; go_wp2
      go_quiet (fail)
      go_wp2
      go_quiet (fail)
      go_wp2
      go_ret2
      exact ⟨q + 1, by omega, (HR2 _).out, by rw [HN.out]; exact ⟨rfl, rfl⟩⟩
    ·have hN := cnt_next (n := n) hk9 hqs (by rw [HBT.out]; exact hlow)
     rw [HC.out] at hN; have hS := HS.out; rw [HBT.out, ← HV.out] at hN hS; have HN := Lib.hid hN; have HS2 := Lib.hid hS; clear hN hS; go_wp2
     go_quiet (fail)
     go_wp2
     go_quiet (fail)
     go_wp2; go_roundw
     case rel => exact ⟨k + 1, q + 1, _, by omega, by omega, by rw [show ((7 * (k + 1) : Nat) : Int) = 7 * (k : Int) + 7 by omega], rfl, HS2.out.1, HS2.out.2, HR2 _, Lib.hid HN.out.symm⟩
     case measure => simp only [intOf]; omega
   ·have hN := cnt_end (k := k) (n := n) hqs; rw [HC.out] at hN; have HN := Lib.hid hN; clear hN; have hqb : (s.size : Int) ≤ (q : Int) := by omega
    go_wp2
    go_quiet (fail)
    go_wp2
    go_ret2
    exact ⟨q, by omega, ⟨HR.out.is.drewN _, zaa HR.out.below _, keep_drewN HR.out.keep _⟩, by rw [HN.out]; rfl⟩
  ·obtain rfl : k = 9 := by omega
   have HN : Hid (num s p = none) := Lib.hid HC.out.symm; go_wp2
   go_ret2
   exact ⟨q, by omega, HR.out, by rw [HN.out]; rfl⟩
end Dec
end Go.Proofs.YtcijanmckhlpiaaDoor
