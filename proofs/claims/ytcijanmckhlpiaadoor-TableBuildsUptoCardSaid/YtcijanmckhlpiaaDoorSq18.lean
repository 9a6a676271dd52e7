-- Texts of this seat, cut to what is used and merged (by shake.py).
import Derived.Test.YtcijanmckhlpiaaDoorSq4
import Derived.Test.YtcijanmckhlpiaaDoorSq16
set_option linter.unusedVariables false
set_option linter.unusedSimpArgs false
namespace Go.Proofs.YtcijanmckhlpiaaDoor
open Go.RowKit Go.Proofs.YtcijanmckhlpiaaDoorW.PrintWords Go.Proofs.YtcijanmckhlpiaaDoorW.PrintLast Go.Proofs.YtcijanmckhlpiaaDoorW.PrintMore Go.Proofs.YtcijanmckhlpiaaDoor.PTableBuilds
namespace Doc
open Bld
set_option maxRecDepth 100000 in
set_option maxHeartbeats 4000000 in
theorem alike_any (A1 : Option Addr) (c1 : Nat) (A2 : Option Addr) (c2 : Nat) (N : Nat) (X Y : List Nat) (w : World) (h1 : kU.C w A1 N X) (h2 : kU.C w A2 N Y) (hN : N ≤ 1048576) :
  Calls Tryd.prog 75 #[.slice A1 N c1, .slice A2 N c2] w fun e' w' => e' = .returned (.bool (decide (X = Y))) ∧ Below w.heap.size w w' := by
 have hX : X.length = N := h1.1; have hY : Y.length = N := h2.1; have H1 := Lib.hid h1; have H2 := Lib.hid h2; have HX := Lib.hid hX; have HY := Lib.hid hY; clear h1 h2 hX hY
 go_enter Tryd.func75, Tryd.ntmps75
 go_wp2_with fail
 go_loopw [5] (fun v5 w' => ∃ i : Nat, v5 = .int .i64 (i : Int) ∧ i ≤ N ∧ Hid (∀ j, j < i → fst X j = fst Y j) ∧ Hid (Below w.heap.size w w')) (fun v5 _ => N - (intOf v5).toNat)
 case atStart => exact ⟨0, rfl, Nat.zero_le _, Lib.hid (fun j hj => absurd hj (Nat.not_lt_zero _)), Lib.hid (Below.refl _ _)⟩
 case round =>
  obtain ⟨i, rfl, hi, HE, HB⟩ := hrel; by_cases hil : i < N
  ·have hib : decide ((i : Int) < (N : Int)) = true := decide_eq_true (by omega)
   have hi0 : (0 : Int) ≤ (i : Int) := Int.natCast_nonneg _; have hi1 : (i : Int) < (N : Int) := by omega
   have hiw : IntKind.i64.wrap ((i : Int) + 1) = (i : Int) + 1 := IntWalk.i64_in _ (by omega)
   have hi2 : i + 1 ≤ N := hil; have hme : N - (i + 1) < N - i := by omega
   obtain ⟨a1, rfl, z1⟩ := at_U (Kd.zav H1.out HB.out) hil; obtain ⟨a2, rfl, z2⟩ := at_U (Kd.zav H2.out HB.out) hil; by_cases he : fst X i = fst Y i
   ·have HE2 : Hid (∀ j, j < i + 1 → fst X j = fst Y j) := Lib.hid (fun j hj => by
     by_cases e : j = i
     ·subst e; exact he
     ·exact HE.out j (by omega))
    rw [he] at z1; clear he; generalize fst Y i = y at *
    go_wp2_with fail
    refine wp_region_quiet_lit (by kernel_rfl) (by kernel_rfl) ?_
    repeat (go_big_quiet_step (fail))
    refine wpQuiet_nil ?_; intro _ hw1; obtain ⟨nq, hw2⟩ := hw1; subst hw2; have HBd := Lib.hid (zab HB.out nq)
    go_wp2_with fail
    go_roundw
    case rel => first | exact ⟨i + 1, by rw [Int.natCast_add]; rfl, hi2, HE2, HBd⟩ | ((repeat apply Exists.intro); exact ⟨⟨i + 1, by rw [Int.natCast_add]; rfl, hi2, HE2, HBd⟩, rfl⟩)
    case measure => exact hme
   ·have HNE : Hid (¬ X = Y) := Lib.hid (fun e => he (by rw [e]))
    have hb : (((fst X i : Nat) : Int) != ((fst Y i : Nat) : Int)) = true := by rw [bne_iff_ne]; omega
    have hb2 : decide (((fst X i : Nat) : Int) = ((fst Y i : Nat) : Int)) = false := decide_eq_false (by omega)
    have hb3 : (((fst X i : Nat) : Int) = ((fst Y i : Nat) : Int)) = False := propext ⟨fun h => by omega, fun h => h.elim⟩
    clear he; generalize fst X i = x at *; generalize fst Y i = y at *
    go_wp2_with fail
    refine wp_region_quiet_lit (by kernel_rfl) (by kernel_rfl) ?_
    repeat (go_big_quiet_step (fail))
    refine wpQuiet_nil ?_; intro _ hw1; obtain ⟨nq, hw2⟩ := hw1; subst hw2; have HBd := Lib.hid (zab HB.out nq)
    go_wp2_with fail
    go_ret; exact ⟨by rw [decide_eq_false HNE.out]; rfl, HBd.out⟩
  ·have hib : decide ((i : Int) < (N : Int)) = false := decide_eq_false (by omega)
   have HXY : Hid (X = Y) := Lib.hid (ext_fst (by rw [HX.out, HY.out]) (fun j => by
    by_cases hj : j < N
    ·exact HE.out j (by omega)
    ·unfold fst; rw [List.getD_eq_getElem?_getD, List.getD_eq_getElem?_getD, List.getElem?_eq_none (by rw [HX.out]; omega), List.getElem?_eq_none (by rw [HY.out]; omega)]))
   go_wp2_with fail
   go_ret; exact ⟨by rw [decide_eq_true HXY.out]; rfl, HB.out⟩
end Doc
end Go.Proofs.YtcijanmckhlpiaaDoor
namespace Go.Proofs.YtcijanmckhlpiaaDoor.PTableBuilds
open Go.RowKit Go.Proofs.YtcijanmckhlpiaaDoorW.PrintWords Go.Proofs.YtcijanmckhlpiaaDoorW.PrintLast Go.Proofs.YtcijanmckhlpiaaDoorW.PrintMore
attribute [local go_sem] max2_int min2_int max_two min_two max_three min_three max_four min_four
mutual
def trellisref12_Right.j0 : Nat → Bool → List (S112) → List (S115) → List (S77) → Option (Bool)
 | 0, _, _, _, _ => none
 | k + 1, x27, x236000, x236001, x236002 => if x27 = true then (some false) else (trellisref12_Right.l0 k 0 x236000 x236001 x236002)
def trellisref12_Right.l0 : Nat → Int → List (S112) → List (S115) → List (S77) → Option (Bool)
 | 0, _, _, _, _ => none
 | k + 1, x3, x236000, x236001, x236002 => if x3 < (x236002.length : Int) then (if 0 ≤ x3 then (if x3 = 0 then (if ((zal x236002 x3).f0) = (-1) then (if (((zal x236002 x3).f1).length : Int) = 1 then (if 0 < (((zal x236002 x3).f1).length : Int) then (if ((zax ((zal x236002 x3).f1) 0).f0) = (x236000.length : Int) then (if x3 > 0 then (if ((zal x236002 x3).f0) < 0 then (trellisref12_Right.j2 k x3 true x236000 x236001 x236002 ((zal x236002 x3).f0) ((zal x236002 x3).f1)) else (trellisref12_Right.j2 k x3 (decide (((zal x236002 x3).f0) ≥ (x236001.length : Int))) x236000 x236001 x236002 ((zal x236002 x3).f0) ((zal x236002 x3).f1))) else (trellisref12_Right.j2 k x3 false x236000 x236001 x236002 ((zal x236002 x3).f0) ((zal x236002 x3).f1))) else (trellisref12_Right.j2 k x3 true x236000 x236001 x236002 ((zal x236002 x3).f0) ((zal x236002 x3).f1))) else (none)) else (trellisref12_Right.j2 k x3 true x236000 x236001 x236002 ((zal x236002 x3).f0) ((zal x236002 x3).f1))) else (trellisref12_Right.j2 k x3 true x236000 x236001 x236002 ((zal x236002 x3).f0) ((zal x236002 x3).f1))) else (if x3 > 0 then (if ((zal x236002 x3).f0) < 0 then (trellisref12_Right.j2 k x3 true x236000 x236001 x236002 ((zal x236002 x3).f0) ((zal x236002 x3).f1)) else (trellisref12_Right.j2 k x3 (decide (((zal x236002 x3).f0) ≥ (x236001.length : Int))) x236000 x236001 x236002 ((zal x236002 x3).f0) ((zal x236002 x3).f1))) else (trellisref12_Right.j2 k x3 false x236000 x236001 x236002 ((zal x236002 x3).f0) ((zal x236002 x3).f1)))) else (none)) else (some true)
def trellisref12_Right.j2 : Nat → Int → Bool → List (S112) → List (S115) → List (S77) → Int → List (S110) → Option (Bool)
 | 0, _, _, _, _, _, _, _ => none
 | k + 1, x3, x80, x236000, x236001, x236002, x238000, x238001 => if x80 = true then (some false) else (trellisref12_Right.l1 k x3 0 x236000 x236001 x236002 x238000 x238001)
def trellisref12_Right.l1 : Nat → Int → Int → List (S112) → List (S115) → List (S77) → Int → List (S110) → Option (Bool)
 | 0, _, _, _, _, _, _, _ => none
 | k + 1, x3, x5, x236000, x236001, x236002, x238000, x238001 => if x5 < (x238001.length : Int) then (if 0 ≤ x5 then (if ((zax x238001 x5).f0) < 1 then (some false) else (if ((zax x238001 x5).f0) ≥ (wrap64 ((x236000.length : Int) + (x236001.length : Int))) then (some false) else (trellisref12_Right.l1 k x3 (wrap64 (x5 + 1)) x236000 x236001 x236002 x238000 x238001))) else (none)) else (trellisref12_Right.l0 k (wrap64 (x3 + 1)) x236000 x236001 x236002)
end
def trellisref12_Right.f (k : Nat) (l0_0 : List (S112)) (l0_1 : List (S115)) (l0_2 : List (S77)) : Option (Bool) := if (l0_0.length : Int) < 1 then (trellisref12_Right.j0 k true l0_0 l0_1 l0_2) else (if (l0_0.length : Int) > 64 then (trellisref12_Right.j0 k true l0_0 l0_1 l0_2) else (if (l0_1.length : Int) > 128 then (trellisref12_Right.j0 k true l0_0 l0_1 l0_2) else (trellisref12_Right.j0 k (decide ((l0_2.length : Int) < 1)) l0_0 l0_1 l0_2)))
set_option maxHeartbeats 8000000 in
set_option maxRecDepth 100000 in
theorem trellisref12_Right.calls (k : Nat) (A0_0 : Option Addr) (c0_0 : Nat) (l0_0 : List (S112)) (A0_1 : Option Addr) (c0_1 : Nat) (l0_1 : List (S115)) (A0_2 : Option Addr) (c0_2 : Nat) (l0_2 : List (S77)) (r : Bool) (w : World) (hr0_0 : Kd.C k112 w A0_0 l0_0.length l0_0) (hc0_0 : l0_0.length ≤ c0_0) (hr0_1 : Kd.C k115 w A0_1 l0_1.length l0_1) (hc0_1 : l0_1.length ≤ c0_1) (hr0_2 : Kd.C k77 w A0_2 l0_2.length l0_2) (hc0_2 : l0_2.length ≤ c0_2) (h : trellisref12_Right.f k l0_0 l0_1 l0_2 = some r) :
  Calls Tryd.prog 70 #[.agg #[.slice A0_0 l0_0.length c0_0, .slice A0_1 l0_1.length c0_1, .slice A0_2 l0_2.length c0_2]] w fun e w' => e = .returned (.bool r) ∧ Below w.heap.size w w' := by
 have hu51 := Tryd.underlying51; have hu77 := Tryd.underlying77; have HR0_0 := zaj.mk hr0_0; have HC0_0 := zaj.mk hc0_0; clear hr0_0 hc0_0; have HR0_1 := zaj.mk hr0_1; have HC0_1 := zaj.mk hc0_1; clear hr0_1 hc0_1; have HR0_2 := zaj.mk hr0_2; have HC0_2 := zaj.mk hc0_2; clear hr0_2 hc0_2; have HB := zaj.mk (Below.refl w.heap.size w); have H : (if (l0_0.length : Int) < 1 then (trellisref12_Right.j0 k true l0_0 l0_1 l0_2) else (if (l0_0.length : Int) > 64 then (trellisref12_Right.j0 k true l0_0 l0_1 l0_2) else (if (l0_1.length : Int) > 128 then (trellisref12_Right.j0 k true l0_0 l0_1 l0_2) else (trellisref12_Right.j0 k (decide ((l0_2.length : Int) < 1)) l0_0 l0_1 l0_2)))) = some r := h
 clear h; have HC2 := zaj.mk H; clear H
 go_enter Tryd.func70, Tryd.ntmps70
 go_upto_region 1 with (first | ((with_reducible refine zbg (N := 1) rfl ?_); (try (refine zaz (by rfl) ?_; dsimp only)); refine zbe ?hg (N := 1) ?hd (cs := #[.slice A0_0 l0_0.length c0_0, .slice A0_1 l0_1.length c0_1, .slice A0_2 l0_2.length c0_2]) (t := 51) ?hr ?_; (case hd => rfl); (case hg => rfl); (case hr => first | (go_simp; done) | (go_simp; rfl)); intro gb235 hg w3 hbox hb; have n0_ := zaj.mk (zam (by repeat (first | (with_reducible first | exact HB.out | apply zac | apply zab | apply below_drew1) | exact HB.out)) hb); have n1_ := zaj.mk (hbox); have n2_ := zaj.mk ((by rw [hg]; exact (zao (by repeat (first | (with_reducible first | exact HB.out | apply zac | apply zab | apply below_drew1) | exact HB.out))) : w.heap.size ≤ gb235)); have n3_ := zaj.mk ((by rw [hg]; exact (zao (by repeat (first | (with_reducible first | exact HB.out | apply zac | apply zab | apply below_drew1) | exact HB.out))) : w.heap.size ≤ gb235)); clear HB; have HB := n0_; have BK235 := n1_; have GW235 := n2_; have GE235 := n3_; clear n0_ n1_ n2_ n3_; clear hb hbox hg))
 repeat (go_quiet (first | ((with_reducible refine zbg (N := 1) rfl ?_); (try (refine zaz (by rfl) ?_; dsimp only)); refine zbe ?hg (N := 1) ?hd (cs := #[.slice A0_0 l0_0.length c0_0, .slice A0_1 l0_1.length c0_1, .slice A0_2 l0_2.length c0_2]) (t := 51) ?hr ?_; (case hd => rfl); (case hg => rfl); (case hr => first | (go_simp; done) | (go_simp; rfl)); intro gb235 hg w3 hbox hb; have n0_ := zaj.mk (zam (by repeat (first | (with_reducible first | exact HB.out | apply zac | apply zab | apply below_drew1) | exact HB.out)) hb); have n1_ := zaj.mk (hbox); have n2_ := zaj.mk ((by rw [hg]; exact (zao (by repeat (first | (with_reducible first | exact HB.out | apply zac | apply zab | apply below_drew1) | exact HB.out))) : w.heap.size ≤ gb235)); have n3_ := zaj.mk ((by rw [hg]; exact (zao (by repeat (first | (with_reducible first | exact HB.out | apply zac | apply zab | apply below_drew1) | exact HB.out))) : w.heap.size ≤ gb235)); clear HB; have HB := n0_; have BK235 := n1_; have GW235 := n2_; have GE235 := n3_; clear n0_ n1_ n2_ n3_; clear hb hbox hg)); go_upto_region 1 with (first | ((with_reducible refine zbg (N := 1) rfl ?_); (try (refine zaz (by rfl) ?_; dsimp only)); refine zbe ?hg (N := 1) ?hd (cs := #[.slice A0_0 l0_0.length c0_0, .slice A0_1 l0_1.length c0_1, .slice A0_2 l0_2.length c0_2]) (t := 51) ?hr ?_; (case hd => rfl); (case hg => rfl); (case hr => first | (go_simp; done) | (go_simp; rfl)); intro gb235 hg w3 hbox hb; have n0_ := zaj.mk (zam (by repeat (first | (with_reducible first | exact HB.out | apply zac | apply zab | apply below_drew1) | exact HB.out)) hb); have n1_ := zaj.mk (hbox); have n2_ := zaj.mk ((by rw [hg]; exact (zao (by repeat (first | (with_reducible first | exact HB.out | apply zac | apply zab | apply below_drew1) | exact HB.out))) : w.heap.size ≤ gb235)); have n3_ := zaj.mk ((by rw [hg]; exact (zao (by repeat (first | (with_reducible first | exact HB.out | apply zac | apply zab | apply below_drew1) | exact HB.out))) : w.heap.size ≤ gb235)); clear HB; have HB := n0_; have BK235 := n1_; have GW235 := n2_; have GE235 := n3_; clear n0_ n1_ n2_ n3_; clear hb hbox hg)))
 (try simp only [Act.put, List.setIfInBounds_toArray, List.set_cons_zero, List.set_cons_succ])
 go_cut [27] (fun v27 wc => ∃ (kq : Nat) (x27_1 : Bool), v27 = .bool x27_1 ∧ zaj (trellisref12_Right.j0 kq x27_1 l0_0 l0_1 l0_2 = some r) ∧ zaj (kq ≤ k) ∧ zaj (wc.heap[gb235]? = some (.cells #[(.slice A0_0 l0_0.length c0_0), (.slice A0_1 l0_1.length c0_1), (.slice A0_2 l0_2.length c0_2)] 51 (0, 0))) ∧ zaj (Below w.heap.size w wc))
 case first =>
  have H := HC2.out; clear HC2; by_cases c4 : (l0_0.length : Int) < 1
  ·rw [if_pos c4] at H; have c4b0 : decide ((l0_0.length : Int) < 1) = true := decide_eq_true c4; have c4b1 : decide (l0_0.length < 1) = true := decide_eq_true (by omega)
   clear c4
   (first | rw [c4b0] | (simp only [i64_w, i32_w]; rw [c4b0]) | skip)
   have H' := zaj.mk H; clear H; have hcz5_0 : w3.cell? ⟨gb235, 0, none⟩ = some (.slice A0_0 l0_0.length c0_0) := (zaa BK235.out 0).trans rfl; have hcz5_1 : w3.cell? ⟨gb235, 1, none⟩ = some (.slice A0_1 l0_1.length c0_1) := (zaa BK235.out 1).trans rfl; have hcz5_2 : w3.cell? ⟨gb235, 2, none⟩ = some (.slice A0_2 l0_2.length c0_2) := (zaa BK235.out 2).trans rfl; have hfz5_0 := zae BK235.out 0; have hfz5_1 := zae BK235.out 1; have hfz5_2 := zae BK235.out 2; go_wp2
   repeat (go_quiet (fail); try go_wp2)
   go_meet
   case rel => exact ⟨_, (true), (by first | rfl | (simp; done) | (simp [*]; done)), H', ⟨by first | omega | exact Nat.le_refl _⟩, ⟨by (with_reducible repeat (first | apply zai | apply zah | apply zad)); exact BK235.out⟩, ⟨by repeat (first | (with_reducible first | exact HB.out | apply zac | apply zab | apply below_drew1 | refine zaf ?_ GE235.out) | exact HB.out)⟩⟩
  ·rw [if_neg c4] at H; have c4b0 : decide ((l0_0.length : Int) < 1) = false := decide_eq_false c4; have c4b1 : decide (l0_0.length < 1) = false := decide_eq_false (by omega)
   clear c4
   (first | rw [c4b0] | (simp only [i64_w, i32_w]; rw [c4b0]) | skip)
   by_cases c6 : (l0_0.length : Int) > 64
   ·rw [if_pos c6] at H; have c6b0 : decide (64 < (l0_0.length : Int)) = true := decide_eq_true c6; have c6b1 : decide (64 < l0_0.length) = true := decide_eq_true (by omega)
    clear c6; have H' := zaj.mk H; clear H; have hcz7_0 : w3.cell? ⟨gb235, 0, none⟩ = some (.slice A0_0 l0_0.length c0_0) := (zaa BK235.out 0).trans rfl; have hcz7_1 : w3.cell? ⟨gb235, 1, none⟩ = some (.slice A0_1 l0_1.length c0_1) := (zaa BK235.out 1).trans rfl; have hcz7_2 : w3.cell? ⟨gb235, 2, none⟩ = some (.slice A0_2 l0_2.length c0_2) := (zaa BK235.out 2).trans rfl; have hfz7_0 := zae BK235.out 0; have hfz7_1 := zae BK235.out 1; have hfz7_2 := zae BK235.out 2; go_wp2
    repeat (go_quiet (fail); try go_wp2)
    go_meet
    case rel => exact ⟨_, (true), (by first | rfl | (simp; done) | (simp [*]; done)), H', ⟨by first | omega | exact Nat.le_refl _⟩, ⟨by (with_reducible repeat (first | apply zai | apply zah | apply zad)); exact BK235.out⟩, ⟨by repeat (first | (with_reducible first | exact HB.out | apply zac | apply zab | apply below_drew1 | refine zaf ?_ GE235.out) | exact HB.out)⟩⟩
   ·rw [if_neg c6] at H; have c6b0 : decide (64 < (l0_0.length : Int)) = false := decide_eq_false c6; have c6b1 : decide (64 < l0_0.length) = false := decide_eq_false (by omega)
    clear c6; by_cases c8 : (l0_1.length : Int) > 128
    ·rw [if_pos c8] at H; have c8b0 : decide (128 < (l0_1.length : Int)) = true := decide_eq_true c8; have c8b1 : decide (128 < l0_1.length) = true := decide_eq_true (by omega)
     clear c8; have H' := zaj.mk H; clear H; have hcz9_0 : w3.cell? ⟨gb235, 0, none⟩ = some (.slice A0_0 l0_0.length c0_0) := (zaa BK235.out 0).trans rfl; have hcz9_1 : w3.cell? ⟨gb235, 1, none⟩ = some (.slice A0_1 l0_1.length c0_1) := (zaa BK235.out 1).trans rfl; have hcz9_2 : w3.cell? ⟨gb235, 2, none⟩ = some (.slice A0_2 l0_2.length c0_2) := (zaa BK235.out 2).trans rfl; have hfz9_0 := zae BK235.out 0; have hfz9_1 := zae BK235.out 1; have hfz9_2 := zae BK235.out 2; go_wp2
     repeat (go_quiet (fail); try go_wp2)
     go_meet
     case rel => exact ⟨_, (true), (by first | rfl | (simp; done) | (simp [*]; done)), H', ⟨by first | omega | exact Nat.le_refl _⟩, ⟨by (with_reducible repeat (first | apply zai | apply zah | apply zad)); exact BK235.out⟩, ⟨by repeat (first | (with_reducible first | exact HB.out | apply zac | apply zab | apply below_drew1 | refine zaf ?_ GE235.out) | exact HB.out)⟩⟩
    ·rw [if_neg c8] at H; have c8b0 : decide (128 < (l0_1.length : Int)) = false := decide_eq_false c8; have c8b1 : decide (128 < l0_1.length) = false := decide_eq_false (by omega)
     clear c8; have H' := zaj.mk H; clear H; have hcz10_0 : w3.cell? ⟨gb235, 0, none⟩ = some (.slice A0_0 l0_0.length c0_0) := (zaa BK235.out 0).trans rfl; have hcz10_1 : w3.cell? ⟨gb235, 1, none⟩ = some (.slice A0_1 l0_1.length c0_1) := (zaa BK235.out 1).trans rfl; have hcz10_2 : w3.cell? ⟨gb235, 2, none⟩ = some (.slice A0_2 l0_2.length c0_2) := (zaa BK235.out 2).trans rfl; have hfz10_0 := zae BK235.out 0; have hfz10_1 := zae BK235.out 1; have hfz10_2 := zae BK235.out 2; go_wp2
     repeat (go_quiet (fail); try go_wp2)
     go_meet
     case rel => exact ⟨_, (decide ((l0_2.length : Int) < 1)), (by first | rfl | (simp; done) | (simp [*]; done)), H', ⟨by first | omega | exact Nat.le_refl _⟩, ⟨by (with_reducible repeat (first | apply zai | apply zah | apply zad)); exact BK235.out⟩, ⟨by repeat (first | (with_reducible first | exact HB.out | apply zac | apply zab | apply below_drew1 | refine zaf ?_ GE235.out) | exact HB.out)⟩⟩
 case rest =>
  clear HC2
  try clear p2
  try clear c4
  try clear c4b0
  try clear c4b1
  try clear c6
  try clear c6b0
  try clear c6b1
  try clear c7
  try clear c8
  try clear c8b0
  try clear c8b1
  try clear hcz10_0
  try clear hcz10_1
  try clear hcz10_2
  try clear hcz5_0
  try clear hcz5_1
  try clear hcz5_2
  try clear hcz7_0
  try clear hcz7_1
  try clear hcz7_2
  try clear hcz9_0
  try clear hcz9_1
  try clear hcz9_2
  try clear hfz10_0
  try clear hfz10_1
  try clear hfz10_2
  try clear hfz5_0
  try clear hfz5_1
  try clear hfz5_2
  try clear hfz7_0
  try clear hfz7_1
  try clear hfz7_2
  try clear hfz9_0
  try clear hfz9_1
  try clear hfz9_2
  obtain ⟨kq, x27_1, rfl, HA, HJ1, BK235, HB⟩ := hcut; cases kq with
  | zero => exact absurd HA.out (by simp [trellisref12_Right.j0])
  | succ kj1 =>
   have H := HA.out; clear HA; simp only [trellisref12_Right.j0] at H; by_cases c11 : x27_1 = true
   ·subst c11; have H1 : (some false) = some r := by rw [if_pos rfl] at H; exact H
    clear H; have H := H1; clear H1; obtain rfl := Option.some.inj H; go_wp2
    repeat (go_quiet (fail); try go_wp2)
    go_ret; exact ⟨by first | rfl | (simp [errW_none, errW_some] <;> rfl) | (simp [*, errW_none, errW_some] <;> rfl), by repeat (first | (with_reducible first | exact HB.out | apply zac | apply zab | apply below_drew1 | refine zaf ?_ GE235.out) | exact HB.out)⟩
   ·replace c11 := Bool.eq_false_iff.mpr c11; subst c11; have H1 : (trellisref12_Right.l0 kj1 0 l0_0 l0_1 l0_2) = some r := by rw [if_neg (show ¬ (false = true) by decide)] at H; exact H
    clear H; have H := H1; clear H1; have H' := zaj.mk H; clear H; go_wp2
    repeat (go_quiet (fail); try go_wp2)
    go_loopg [3] kj1 (fun kq v3 w' => ∃ (x3_2 : Int), v3 = .int .i64 x3_2 ∧ zaj (trellisref12_Right.l0 kq x3_2 l0_0 l0_1 l0_2 = some r) ∧ zaj (kq ≤ kj1) ∧ zaj (w'.heap[gb235]? = some (.cells #[(.slice A0_0 l0_0.length c0_0), (.slice A0_1 l0_1.length c0_1), (.slice A0_2 l0_2.length c0_2)] 51 (0, 0))) ∧ zaj (Below w.heap.size w w'))
    case atStart => exact ⟨(0), (by first | rfl | (simp; done) | (simp [*]; done)), H', ⟨Nat.le_refl _⟩, ⟨by (with_reducible repeat (first | apply zai | apply zah | apply zad)); exact BK235.out⟩, ⟨by repeat (first | (with_reducible first | exact HB.out | apply zac | apply zab | apply below_drew1 | refine zaf ?_ GE235.out) | exact HB.out)⟩⟩
    case round =>
     clear H'
     try clear c1
     try clear p2
     try clear c4
     try clear c4b0
     try clear c4b1
     try clear c6
     try clear c6b0
     try clear c6b1
     try clear c7
     try clear c8
     try clear c8b0
     try clear c8b1
     try clear c11
     try clear hcz10_0
     try clear hcz10_1
     try clear hcz10_2
     try clear hcz5_0
     try clear hcz5_1
     try clear hcz5_2
     try clear hcz7_0
     try clear hcz7_1
     try clear hcz7_2
     try clear hcz9_0
     try clear hcz9_1
     try clear hcz9_2
     try clear hfz10_0
     try clear hfz10_1
     try clear hfz10_2
     try clear hfz5_0
     try clear hfz5_1
     try clear hfz5_2
     try clear hfz7_0
     try clear hfz7_1
     try clear hfz7_2
     try clear hfz9_0
     try clear hfz9_1
     try clear hfz9_2
     try clear p2
     obtain ⟨x3_2, rfl, HA, HK2, BK235, HB⟩ := hrel; cases gk with
     | zero => exact absurd HA.out (by simp [trellisref12_Right.l0])
     | succ k2 =>
      have H := HA.out; clear HA; simp only [trellisref12_Right.l0] at H; by_cases c12 : x3_2 < (l0_2.length : Int)
      ·rw [if_pos c12] at H; have c12b0 : decide (x3_2 < (l0_2.length : Int)) = true := decide_eq_true c12; clear c12; by_cases c13 : 0 ≤ x3_2
       ·rw [if_pos c13] at H; have c13b0 : decide (0 ≤ x3_2) = true := decide_eq_true c13; clear c13; have HC14 := zaj.mk H; clear H; have hcz15_0 : wr.cell? ⟨gb235, 0, none⟩ = some (.slice A0_0 l0_0.length c0_0) := (zaa BK235.out 0).trans rfl; have hcz15_1 : wr.cell? ⟨gb235, 1, none⟩ = some (.slice A0_1 l0_1.length c0_1) := (zaa BK235.out 1).trans rfl; have hcz15_2 : wr.cell? ⟨gb235, 2, none⟩ = some (.slice A0_2 l0_2.length c0_2) := (zaa BK235.out 2).trans rfl; have hfz15_0 := zae BK235.out 0; have hfz15_1 := zae BK235.out 1; have hfz15_2 := zae BK235.out 2; have p236 : 0 ≤ (x3_2 : Int) := of_decide_eq_true (by first | (with_reducible assumption) | assumption)
        have q236 : x3_2 < (l0_2.length : Int) := of_decide_eq_true (by first | (with_reducible assumption) | assumption)
        obtain ⟨ad236, A236_1, c236_1, e236, hx236_0, hx236_1, hl236_1, hi236_1⟩ := at_T77 HR0_2.out x3_2 p236 q236; cases e236; replace hx236_0 := (HB.out.cell (World.block_lt_of_cell? w _ hx236_0)).trans hx236_0; replace hx236_1 := (HB.out.cell (World.block_lt_of_cell? w _ hx236_1)).trans hx236_1; have HR236_1 := zaj.mk hi236_1; have HC236_1 := zaj.mk hl236_1; clear hi236_1 hl236_1; replace p236 := eq_true p236; replace q236 := eq_true q236
        go_upto_region 7 with (first | ((with_reducible refine zbg (N := 4) rfl ?_); (try (refine zaz (by rfl) ?_; dsimp only)); refine zbe ?hg (N := 4) ?hd (cs := #[.int .i64 0, .slice none 0 0]) (t := 77) ?hr ?_; (case hd => rfl); (case hg => rfl); (case hr => first | (go_simp; done) | (go_simp; rfl)); intro gb237 hg w16 hbox hb; have n0_ := zaj.mk (zak (g := gb235) (o := .cells #[.slice A0_0 l0_0.length c0_0, .slice A0_1 l0_1.length c0_1, .slice (some ad236) l0_2.length c0_2] 51 (0, 0)) (by (with_reducible repeat (first | apply zai | apply zah | apply zad)); exact BK235.out) hb); have n1_ := zaj.mk (zam (by repeat (first | (with_reducible first | exact HB.out | apply zac | apply zab | apply below_drew1 | refine zaf ?_ GE235.out) | exact HB.out)) hb); have n2_ := zaj.mk (hbox); have n3_ := zaj.mk ((by rw [hg]; exact (zao (by repeat (first | (with_reducible first | exact HB.out | apply zac | apply zab | apply below_drew1 | refine zaf ?_ GE235.out) | exact HB.out))) : w.heap.size ≤ gb237)); have n4_ := zaj.mk ((by rw [hg]; exact (zao (by repeat (first | (with_reducible first | exact HB.out | apply zac | apply zab | apply below_drew1 | refine zaf ?_ GE235.out) | exact HB.out))) : w.heap.size ≤ gb237)); have n5_ := zaj.mk ((by rw [hg]; exact Nat.ne_of_lt (zba (g := gb235) (o := .cells #[.slice A0_0 l0_0.length c0_0, .slice A0_1 l0_1.length c0_1, .slice (some ad236) l0_2.length c0_2] 51 (0, 0)) (by (with_reducible repeat (first | apply zai | apply zah | apply zad)); exact BK235.out)) : gb235 ≠ gb237)); have n6_ := zaj.mk ((by rw [hg]; exact Nat.ne_of_gt (zba (g := gb235) (o := .cells #[.slice A0_0 l0_0.length c0_0, .slice A0_1 l0_1.length c0_1, .slice (some ad236) l0_2.length c0_2] 51 (0, 0)) (by (with_reducible repeat (first | apply zai | apply zah | apply zad)); exact BK235.out)) : gb237 ≠ gb235)); clear BK235; clear HB; have BK235 := n0_; have HB := n1_; have BK237 := n2_; have GW237 := n3_; have GE237 := n4_; have NB235_237 := n5_; have NB237_235 := n6_; clear n0_ n1_ n2_ n3_ n4_ n5_ n6_; clear hb hbox hg; have hnb17 := NB237_235.out; have hnc17 := NB235_237.out; have hcz18_0 : w16.cell? ⟨gb237, 0, none⟩ = some (.int .i64 0) := (zaa BK237.out 0).trans rfl; have hcz18_1 : w16.cell? ⟨gb237, 1, none⟩ = some (.slice none 0 0) := (zaa BK237.out 1).trans rfl; have hfz18_0 := zae BK237.out 0; have hfz18_1 := zae BK237.out 1))
        repeat (go_quiet (first | ((with_reducible refine zbg (N := 4) rfl ?_); (try (refine zaz (by rfl) ?_; dsimp only)); refine zbe ?hg (N := 4) ?hd (cs := #[.int .i64 0, .slice none 0 0]) (t := 77) ?hr ?_; (case hd => rfl); (case hg => rfl); (case hr => first | (go_simp; done) | (go_simp; rfl)); intro gb237 hg w16 hbox hb; have n0_ := zaj.mk (zak (g := gb235) (o := .cells #[.slice A0_0 l0_0.length c0_0, .slice A0_1 l0_1.length c0_1, .slice (some ad236) l0_2.length c0_2] 51 (0, 0)) (by (with_reducible repeat (first | apply zai | apply zah | apply zad)); exact BK235.out) hb); have n1_ := zaj.mk (zam (by repeat (first | (with_reducible first | exact HB.out | apply zac | apply zab | apply below_drew1 | refine zaf ?_ GE235.out) | exact HB.out)) hb); have n2_ := zaj.mk (hbox); have n3_ := zaj.mk ((by rw [hg]; exact (zao (by repeat (first | (with_reducible first | exact HB.out | apply zac | apply zab | apply below_drew1 | refine zaf ?_ GE235.out) | exact HB.out))) : w.heap.size ≤ gb237)); have n4_ := zaj.mk ((by rw [hg]; exact (zao (by repeat (first | (with_reducible first | exact HB.out | apply zac | apply zab | apply below_drew1 | refine zaf ?_ GE235.out) | exact HB.out))) : w.heap.size ≤ gb237)); have n5_ := zaj.mk ((by rw [hg]; exact Nat.ne_of_lt (zba (g := gb235) (o := .cells #[.slice A0_0 l0_0.length c0_0, .slice A0_1 l0_1.length c0_1, .slice (some ad236) l0_2.length c0_2] 51 (0, 0)) (by (with_reducible repeat (first | apply zai | apply zah | apply zad)); exact BK235.out)) : gb235 ≠ gb237)); have n6_ := zaj.mk ((by rw [hg]; exact Nat.ne_of_gt (zba (g := gb235) (o := .cells #[.slice A0_0 l0_0.length c0_0, .slice A0_1 l0_1.length c0_1, .slice (some ad236) l0_2.length c0_2] 51 (0, 0)) (by (with_reducible repeat (first | apply zai | apply zah | apply zad)); exact BK235.out)) : gb237 ≠ gb235)); clear BK235; clear HB; have BK235 := n0_; have HB := n1_; have BK237 := n2_; have GW237 := n3_; have GE237 := n4_; have NB235_237 := n5_; have NB237_235 := n6_; clear n0_ n1_ n2_ n3_ n4_ n5_ n6_; clear hb hbox hg; have hnb17 := NB237_235.out; have hnc17 := NB235_237.out; have hcz18_0 : w16.cell? ⟨gb237, 0, none⟩ = some (.int .i64 0) := (zaa BK237.out 0).trans rfl; have hcz18_1 : w16.cell? ⟨gb237, 1, none⟩ = some (.slice none 0 0) := (zaa BK237.out 1).trans rfl; have hfz18_0 := zae BK237.out 0; have hfz18_1 := zae BK237.out 1)); go_upto_region 7 with (first | ((with_reducible refine zbg (N := 4) rfl ?_); (try (refine zaz (by rfl) ?_; dsimp only)); refine zbe ?hg (N := 4) ?hd (cs := #[.int .i64 0, .slice none 0 0]) (t := 77) ?hr ?_; (case hd => rfl); (case hg => rfl); (case hr => first | (go_simp; done) | (go_simp; rfl)); intro gb237 hg w16 hbox hb; have n0_ := zaj.mk (zak (g := gb235) (o := .cells #[.slice A0_0 l0_0.length c0_0, .slice A0_1 l0_1.length c0_1, .slice (some ad236) l0_2.length c0_2] 51 (0, 0)) (by (with_reducible repeat (first | apply zai | apply zah | apply zad)); exact BK235.out) hb); have n1_ := zaj.mk (zam (by repeat (first | (with_reducible first | exact HB.out | apply zac | apply zab | apply below_drew1 | refine zaf ?_ GE235.out) | exact HB.out)) hb); have n2_ := zaj.mk (hbox); have n3_ := zaj.mk ((by rw [hg]; exact (zao (by repeat (first | (with_reducible first | exact HB.out | apply zac | apply zab | apply below_drew1 | refine zaf ?_ GE235.out) | exact HB.out))) : w.heap.size ≤ gb237)); have n4_ := zaj.mk ((by rw [hg]; exact (zao (by repeat (first | (with_reducible first | exact HB.out | apply zac | apply zab | apply below_drew1 | refine zaf ?_ GE235.out) | exact HB.out))) : w.heap.size ≤ gb237)); have n5_ := zaj.mk ((by rw [hg]; exact Nat.ne_of_lt (zba (g := gb235) (o := .cells #[.slice A0_0 l0_0.length c0_0, .slice A0_1 l0_1.length c0_1, .slice (some ad236) l0_2.length c0_2] 51 (0, 0)) (by (with_reducible repeat (first | apply zai | apply zah | apply zad)); exact BK235.out)) : gb235 ≠ gb237)); have n6_ := zaj.mk ((by rw [hg]; exact Nat.ne_of_gt (zba (g := gb235) (o := .cells #[.slice A0_0 l0_0.length c0_0, .slice A0_1 l0_1.length c0_1, .slice (some ad236) l0_2.length c0_2] 51 (0, 0)) (by (with_reducible repeat (first | apply zai | apply zah | apply zad)); exact BK235.out)) : gb237 ≠ gb235)); clear BK235; clear HB; have BK235 := n0_; have HB := n1_; have BK237 := n2_; have GW237 := n3_; have GE237 := n4_; have NB235_237 := n5_; have NB237_235 := n6_; clear n0_ n1_ n2_ n3_ n4_ n5_ n6_; clear hb hbox hg; have hnb17 := NB237_235.out; have hnc17 := NB235_237.out; have hcz18_0 : w16.cell? ⟨gb237, 0, none⟩ = some (.int .i64 0) := (zaa BK237.out 0).trans rfl; have hcz18_1 : w16.cell? ⟨gb237, 1, none⟩ = some (.slice none 0 0) := (zaa BK237.out 1).trans rfl; have hfz18_0 := zae BK237.out 0; have hfz18_1 := zae BK237.out 1)))
        (try simp only [Act.put, List.setIfInBounds_toArray, List.set_cons_zero, List.set_cons_succ])
        go_cut [80] (fun v80 wc => ∃ (kq : Nat) (x80_13 : Bool), v80 = .bool x80_13 ∧ zaj (trellisref12_Right.j2 kq x3_2 x80_13 l0_0 l0_1 l0_2 ((zal l0_2 x3_2).f0) ((zal l0_2 x3_2).f1) = some r) ∧ zaj (kq ≤ k2) ∧ zaj (wc.heap[gb235]? = some (.cells #[(.slice A0_0 l0_0.length c0_0), (.slice A0_1 l0_1.length c0_1), (.slice (some ad236) l0_2.length c0_2)] 51 (0, 0))) ∧ zaj (wc.heap[gb237]? = some (.cells #[.int .i64 ((zal l0_2 x3_2).f0), (.slice A236_1 ((zal l0_2 x3_2).f1).length c236_1)] 77 (0, 0))) ∧ zaj (Below w.heap.size w wc))
        case first =>
         have H := HC14.out; clear HC14; by_cases c19 : x3_2 = 0
         ·rw [if_pos c19] at H; have c19b0 : (x3_2 == 0) = true := beq_iff_eq.mpr c19; have c19b1 : (x3_2 != 0) = false := bne_eq_false_iff_eq.mpr c19; clear c19
          (first | rw [c19b0] | (simp only [i64_w, i32_w]; rw [c19b0]) | skip)
          by_cases c20 : ((zal l0_2 x3_2).f0) = (-1)
          ·rw [if_pos c20] at H; have c20b0 : (((zal l0_2 x3_2).f0) == (-1)) = true := beq_iff_eq.mpr c20; have c20b1 : (((zal l0_2 x3_2).f0) != (-1)) = false := bne_eq_false_iff_eq.mpr c20; clear c20; by_cases c21 : (((zal l0_2 x3_2).f1).length : Int) = 1
           ·rw [if_pos c21] at H; have c21b0 : ((((zal l0_2 x3_2).f1).length : Int) == 1) = true := beq_iff_eq.mpr c21; have c21b1 : ((((zal l0_2 x3_2).f1).length : Int) != 1) = false := bne_eq_false_iff_eq.mpr c21; clear c21; by_cases c22 : 0 < (((zal l0_2 x3_2).f1).length : Int)
            ·rw [if_pos c22] at H; have c22b0 : decide (0 < (((zal l0_2 x3_2).f1).length : Int)) = true := decide_eq_true c22; have c22b1 : decide (0 < ((zal l0_2 x3_2).f1).length) = true := decide_eq_true (by omega)
             clear c22; by_cases c23 : ((zax ((zal l0_2 x3_2).f1) 0).f0) = (l0_0.length : Int)
             ·rw [if_pos c23] at H; have c23b0 : (((zax ((zal l0_2 x3_2).f1) 0).f0) == (l0_0.length : Int)) = true := beq_iff_eq.mpr c23; have c23b1 : (((zax ((zal l0_2 x3_2).f1) 0).f0) != (l0_0.length : Int)) = false := bne_eq_false_iff_eq.mpr c23; clear c23; by_cases c24 : x3_2 > 0
              ·rw [if_pos c24] at H; have c24b0 : decide (0 < x3_2) = true := decide_eq_true c24; clear c24; by_cases c25 : ((zal l0_2 x3_2).f0) < 0
               ·rw [if_pos c25] at H; have c25b0 : decide (((zal l0_2 x3_2).f0) < 0) = true := decide_eq_true c25; clear c25; have H' := zaj.mk H; clear H; have hnb26 := NB237_235.out; have hnc26 := NB235_237.out; have hcz27_0 : w16.cell? ⟨gb237, 0, none⟩ = some (.int .i64 0) := (zaa BK237.out 0).trans rfl; have hcz27_1 : w16.cell? ⟨gb237, 1, none⟩ = some (.slice none 0 0) := (zaa BK237.out 1).trans rfl; have hfz27_0 := zae BK237.out 0; have hfz27_1 := zae BK237.out 1; have p238 : 0 ≤ (0 : Int) := (by omega)
                have q238 : 0 < (((zal l0_2 x3_2).f1).length : Int) := of_decide_eq_true (by first | (with_reducible assumption) | assumption)
                obtain ⟨ad238, e238, hx238_0, hx238_1, hx238_2⟩ := zbm HR236_1.out 0 p238 q238; cases e238; have qi238 : (0 < ((zal l0_2 x3_2).f1).length) = True := eq_true (by omega)
                (try rw [show ((0 : Int)).toNat = 0 from rfl] at hx238_0)
                (try rw [show 0 * 3 = 0 from rfl] at hx238_0)
                (try rw [Addr.add_zero'] at hx238_0)
                (try rw [show ((0 : Int)).toNat = 0 from rfl] at hx238_1)
                (try rw [show 0 * 3 = 0 from rfl] at hx238_1)
                (try rw [Addr.add_zero'] at hx238_1)
                (try rw [show ((0 : Int)).toNat = 0 from rfl] at hx238_2)
                (try rw [show 0 * 3 = 0 from rfl] at hx238_2)
                (try rw [Addr.add_zero'] at hx238_2)
                have hn238_0 : ad238.block ≠ gb237 := Nat.ne_of_lt (Nat.lt_of_lt_of_le (by have := World.block_lt_of_cell? _ _ hx238_0; first | rwa [add_block] at this | exact this) GW237.out)
                have hn238_1 : ad238.block ≠ gb237 := Nat.ne_of_lt (Nat.lt_of_lt_of_le (by have := World.block_lt_of_cell? _ _ hx238_0; first | rwa [add_block] at this | exact this) GW237.out)
                replace hx238_0 := (HB.out.cell (World.block_lt_of_cell? w _ hx238_0)).trans hx238_0; replace hx238_1 := (HB.out.cell (World.block_lt_of_cell? w _ hx238_1)).trans hx238_1; replace hx238_2 := (HB.out.cell (World.block_lt_of_cell? w _ hx238_2)).trans hx238_2; replace hx238_0 := (cell_far (p := ⟨gb237, 0, none⟩) (by first | (rw [add_block]; exact hn238_0) | (show (Addr.add _ _).block ≠ _; rw [add_block]; exact hn238_0) | exact hn238_0) (.int .i64 ((zal l0_2 x3_2).f0))).trans hx238_0
                replace hx238_1 := (cell_far (p := ⟨gb237, 0, none⟩) (by first | (rw [add_block]; exact hn238_0) | (show (Addr.add _ _).block ≠ _; rw [add_block]; exact hn238_0) | exact hn238_0) (.int .i64 ((zal l0_2 x3_2).f0))).trans hx238_1
                replace hx238_2 := (cell_far (p := ⟨gb237, 0, none⟩) (by first | (rw [add_block]; exact hn238_0) | (show (Addr.add _ _).block ≠ _; rw [add_block]; exact hn238_0) | exact hn238_0) (.int .i64 ((zal l0_2 x3_2).f0))).trans hx238_2
                replace hx238_0 := (cell_far (p := ⟨gb237, 1, none⟩) (by first | (rw [add_block]; exact hn238_1) | (show (Addr.add _ _).block ≠ _; rw [add_block]; exact hn238_1) | exact hn238_1) (.slice (some ad238) ((zal l0_2 x3_2).f1).length c236_1)).trans hx238_0
                replace hx238_1 := (cell_far (p := ⟨gb237, 1, none⟩) (by first | (rw [add_block]; exact hn238_1) | (show (Addr.add _ _).block ≠ _; rw [add_block]; exact hn238_1) | exact hn238_1) (.slice (some ad238) ((zal l0_2 x3_2).f1).length c236_1)).trans hx238_1
                replace hx238_2 := (cell_far (p := ⟨gb237, 1, none⟩) (by first | (rw [add_block]; exact hn238_1) | (show (Addr.add _ _).block ≠ _; rw [add_block]; exact hn238_1) | exact hn238_1) (.slice (some ad238) ((zal l0_2 x3_2).f1).length c236_1)).trans hx238_2
                (try have hy238_0 := fun (n_ : Nat) => (show ((((w16.drewN n_).setCell ⟨gb237, 0, none⟩ (.int .i64 ((zal l0_2 x3_2).f0))).setCell ⟨gb237, 1, none⟩ (.slice (some ad238) ((zal l0_2 x3_2).f1).length c236_1))).cell? _ = some _ from hx238_0))
                (try have hy238_1 := fun (n_ : Nat) => (show ((((w16.drewN n_).setCell ⟨gb237, 0, none⟩ (.int .i64 ((zal l0_2 x3_2).f0))).setCell ⟨gb237, 1, none⟩ (.slice (some ad238) ((zal l0_2 x3_2).f1).length c236_1))).cell? _ = some _ from hx238_1))
                (try have hy238_2 := fun (n_ : Nat) => (show ((((w16.drewN n_).setCell ⟨gb237, 0, none⟩ (.int .i64 ((zal l0_2 x3_2).f0))).setCell ⟨gb237, 1, none⟩ (.slice (some ad238) ((zal l0_2 x3_2).f1).length c236_1))).cell? _ = some _ from hx238_2))
                clear hn238_0; clear hn238_1; replace p238 := eq_true p238; replace q238 := eq_true q238; have hcz28_0 : w16.cell? ⟨gb235, 0, none⟩ = some (.slice A0_0 l0_0.length c0_0) := (zaa BK235.out 0).trans rfl; have hcz28_1 : w16.cell? ⟨gb235, 1, none⟩ = some (.slice A0_1 l0_1.length c0_1) := (zaa BK235.out 1).trans rfl; have hcz28_2 : w16.cell? ⟨gb235, 2, none⟩ = some (.slice (some ad236) l0_2.length c0_2) := (zaa BK235.out 2).trans rfl; have hfz28_0 := zae BK235.out 0; have hfz28_1 := zae BK235.out 1; have hfz28_2 := zae BK235.out 2; go_wp2
                repeat (go_quiet (fail); try go_wp2)
                go_meet
                case rel => exact ⟨_, (true), (by first | rfl | (simp; done) | (simp [*]; done)), H', ⟨by have := HJ1.out; have := HK2.out; first | omega | exact Nat.le_refl _⟩, ⟨by (with_reducible repeat (first | apply zai | apply zah | apply zad)); refine zar ?_ NB235_237.out _; (with_reducible repeat (first | apply zai | apply zah | apply zad)); refine zar ?_ NB235_237.out _; (with_reducible repeat (first | apply zai | apply zah | apply zad)); exact BK235.out⟩, ⟨by (with_reducible repeat (first | apply zai | apply zah | apply zad)); refine zat (cs := #[.int .i64 ((zal l0_2 x3_2).f0), .slice none 0 0]) ?_ 1 _ rfl; (with_reducible repeat (first | apply zai | apply zah | apply zad)); refine zat (cs := #[.int .i64 0, .slice none 0 0]) ?_ 0 _ rfl; (with_reducible repeat (first | apply zai | apply zah | apply zad)); exact BK237.out⟩, ⟨by repeat (first | (with_reducible first | exact HB.out | apply zac | apply zab | apply below_drew1 | refine zaf ?_ GE235.out | refine zaf ?_ GE237.out) | exact HB.out)⟩⟩
               ·rw [if_neg c25] at H; have c25b0 : decide (((zal l0_2 x3_2).f0) < 0) = false := decide_eq_false c25; clear c25; have H' := zaj.mk H; clear H; have hnb29 := NB237_235.out; have hnc29 := NB235_237.out; have hcz30_0 : w16.cell? ⟨gb237, 0, none⟩ = some (.int .i64 0) := (zaa BK237.out 0).trans rfl; have hcz30_1 : w16.cell? ⟨gb237, 1, none⟩ = some (.slice none 0 0) := (zaa BK237.out 1).trans rfl; have hfz30_0 := zae BK237.out 0; have hfz30_1 := zae BK237.out 1; have p238 : 0 ≤ (0 : Int) := (by omega)
                have q238 : 0 < (((zal l0_2 x3_2).f1).length : Int) := of_decide_eq_true (by first | (with_reducible assumption) | assumption)
                obtain ⟨ad238, e238, hx238_0, hx238_1, hx238_2⟩ := zbm HR236_1.out 0 p238 q238; cases e238; have qi238 : (0 < ((zal l0_2 x3_2).f1).length) = True := eq_true (by omega)
                (try rw [show ((0 : Int)).toNat = 0 from rfl] at hx238_0)
                (try rw [show 0 * 3 = 0 from rfl] at hx238_0)
                (try rw [Addr.add_zero'] at hx238_0)
                (try rw [show ((0 : Int)).toNat = 0 from rfl] at hx238_1)
                (try rw [show 0 * 3 = 0 from rfl] at hx238_1)
                (try rw [Addr.add_zero'] at hx238_1)
                (try rw [show ((0 : Int)).toNat = 0 from rfl] at hx238_2)
                (try rw [show 0 * 3 = 0 from rfl] at hx238_2)
                (try rw [Addr.add_zero'] at hx238_2)
                have hn238_0 : ad238.block ≠ gb237 := Nat.ne_of_lt (Nat.lt_of_lt_of_le (by have := World.block_lt_of_cell? _ _ hx238_0; first | rwa [add_block] at this | exact this) GW237.out)
                have hn238_1 : ad238.block ≠ gb237 := Nat.ne_of_lt (Nat.lt_of_lt_of_le (by have := World.block_lt_of_cell? _ _ hx238_0; first | rwa [add_block] at this | exact this) GW237.out)
                replace hx238_0 := (HB.out.cell (World.block_lt_of_cell? w _ hx238_0)).trans hx238_0; replace hx238_1 := (HB.out.cell (World.block_lt_of_cell? w _ hx238_1)).trans hx238_1; replace hx238_2 := (HB.out.cell (World.block_lt_of_cell? w _ hx238_2)).trans hx238_2; replace hx238_0 := (cell_far (p := ⟨gb237, 0, none⟩) (by first | (rw [add_block]; exact hn238_0) | (show (Addr.add _ _).block ≠ _; rw [add_block]; exact hn238_0) | exact hn238_0) (.int .i64 ((zal l0_2 x3_2).f0))).trans hx238_0
                replace hx238_1 := (cell_far (p := ⟨gb237, 0, none⟩) (by first | (rw [add_block]; exact hn238_0) | (show (Addr.add _ _).block ≠ _; rw [add_block]; exact hn238_0) | exact hn238_0) (.int .i64 ((zal l0_2 x3_2).f0))).trans hx238_1
                replace hx238_2 := (cell_far (p := ⟨gb237, 0, none⟩) (by first | (rw [add_block]; exact hn238_0) | (show (Addr.add _ _).block ≠ _; rw [add_block]; exact hn238_0) | exact hn238_0) (.int .i64 ((zal l0_2 x3_2).f0))).trans hx238_2
                replace hx238_0 := (cell_far (p := ⟨gb237, 1, none⟩) (by first | (rw [add_block]; exact hn238_1) | (show (Addr.add _ _).block ≠ _; rw [add_block]; exact hn238_1) | exact hn238_1) (.slice (some ad238) ((zal l0_2 x3_2).f1).length c236_1)).trans hx238_0
                replace hx238_1 := (cell_far (p := ⟨gb237, 1, none⟩) (by first | (rw [add_block]; exact hn238_1) | (show (Addr.add _ _).block ≠ _; rw [add_block]; exact hn238_1) | exact hn238_1) (.slice (some ad238) ((zal l0_2 x3_2).f1).length c236_1)).trans hx238_1
                replace hx238_2 := (cell_far (p := ⟨gb237, 1, none⟩) (by first | (rw [add_block]; exact hn238_1) | (show (Addr.add _ _).block ≠ _; rw [add_block]; exact hn238_1) | exact hn238_1) (.slice (some ad238) ((zal l0_2 x3_2).f1).length c236_1)).trans hx238_2
                (try have hy238_0 := fun (n_ : Nat) => (show ((((w16.drewN n_).setCell ⟨gb237, 0, none⟩ (.int .i64 ((zal l0_2 x3_2).f0))).setCell ⟨gb237, 1, none⟩ (.slice (some ad238) ((zal l0_2 x3_2).f1).length c236_1))).cell? _ = some _ from hx238_0))
                (try have hy238_1 := fun (n_ : Nat) => (show ((((w16.drewN n_).setCell ⟨gb237, 0, none⟩ (.int .i64 ((zal l0_2 x3_2).f0))).setCell ⟨gb237, 1, none⟩ (.slice (some ad238) ((zal l0_2 x3_2).f1).length c236_1))).cell? _ = some _ from hx238_1))
                (try have hy238_2 := fun (n_ : Nat) => (show ((((w16.drewN n_).setCell ⟨gb237, 0, none⟩ (.int .i64 ((zal l0_2 x3_2).f0))).setCell ⟨gb237, 1, none⟩ (.slice (some ad238) ((zal l0_2 x3_2).f1).length c236_1))).cell? _ = some _ from hx238_2))
                clear hn238_0; clear hn238_1; replace p238 := eq_true p238; replace q238 := eq_true q238; have hcz31_0 : w16.cell? ⟨gb235, 0, none⟩ = some (.slice A0_0 l0_0.length c0_0) := (zaa BK235.out 0).trans rfl; have hcz31_1 : w16.cell? ⟨gb235, 1, none⟩ = some (.slice A0_1 l0_1.length c0_1) := (zaa BK235.out 1).trans rfl; have hcz31_2 : w16.cell? ⟨gb235, 2, none⟩ = some (.slice (some ad236) l0_2.length c0_2) := (zaa BK235.out 2).trans rfl; have hfz31_0 := zae BK235.out 0; have hfz31_1 := zae BK235.out 1; have hfz31_2 := zae BK235.out 2; go_wp2
                repeat (go_quiet (fail); try go_wp2)
                go_meet
                case rel => exact ⟨_, (decide (((zal l0_2 x3_2).f0) ≥ (l0_1.length : Int))), (by first | rfl | (simp; done) | (simp [*]; done)), H', ⟨by have := HJ1.out; have := HK2.out; first | omega | exact Nat.le_refl _⟩, ⟨by (with_reducible repeat (first | apply zai | apply zah | apply zad)); refine zar ?_ NB235_237.out _; (with_reducible repeat (first | apply zai | apply zah | apply zad)); refine zar ?_ NB235_237.out _; (with_reducible repeat (first | apply zai | apply zah | apply zad)); exact BK235.out⟩, ⟨by (with_reducible repeat (first | apply zai | apply zah | apply zad)); refine zat (cs := #[.int .i64 ((zal l0_2 x3_2).f0), .slice none 0 0]) ?_ 1 _ rfl; (with_reducible repeat (first | apply zai | apply zah | apply zad)); refine zat (cs := #[.int .i64 0, .slice none 0 0]) ?_ 0 _ rfl; (with_reducible repeat (first | apply zai | apply zah | apply zad)); exact BK237.out⟩, ⟨by repeat (first | (with_reducible first | exact HB.out | apply zac | apply zab | apply below_drew1 | refine zaf ?_ GE235.out | refine zaf ?_ GE237.out) | exact HB.out)⟩⟩
              ·rw [if_neg c24] at H; have c24b0 : decide (0 < x3_2) = false := decide_eq_false c24; clear c24; have H' := zaj.mk H; clear H; have hnb32 := NB237_235.out; have hnc32 := NB235_237.out; have hcz33_0 : w16.cell? ⟨gb237, 0, none⟩ = some (.int .i64 0) := (zaa BK237.out 0).trans rfl; have hcz33_1 : w16.cell? ⟨gb237, 1, none⟩ = some (.slice none 0 0) := (zaa BK237.out 1).trans rfl; have hfz33_0 := zae BK237.out 0; have hfz33_1 := zae BK237.out 1; have p238 : 0 ≤ (0 : Int) := (by omega)
               have q238 : 0 < (((zal l0_2 x3_2).f1).length : Int) := of_decide_eq_true (by first | (with_reducible assumption) | assumption)
               obtain ⟨ad238, e238, hx238_0, hx238_1, hx238_2⟩ := zbm HR236_1.out 0 p238 q238; cases e238; have qi238 : (0 < ((zal l0_2 x3_2).f1).length) = True := eq_true (by omega)
               (try rw [show ((0 : Int)).toNat = 0 from rfl] at hx238_0)
               (try rw [show 0 * 3 = 0 from rfl] at hx238_0)
               (try rw [Addr.add_zero'] at hx238_0)
               (try rw [show ((0 : Int)).toNat = 0 from rfl] at hx238_1)
               (try rw [show 0 * 3 = 0 from rfl] at hx238_1)
               (try rw [Addr.add_zero'] at hx238_1)
               (try rw [show ((0 : Int)).toNat = 0 from rfl] at hx238_2)
               (try rw [show 0 * 3 = 0 from rfl] at hx238_2)
               (try rw [Addr.add_zero'] at hx238_2)
               have hn238_0 : ad238.block ≠ gb237 := Nat.ne_of_lt (Nat.lt_of_lt_of_le (by have := World.block_lt_of_cell? _ _ hx238_0; first | rwa [add_block] at this | exact this) GW237.out)
               have hn238_1 : ad238.block ≠ gb237 := Nat.ne_of_lt (Nat.lt_of_lt_of_le (by have := World.block_lt_of_cell? _ _ hx238_0; first | rwa [add_block] at this | exact this) GW237.out)
               replace hx238_0 := (HB.out.cell (World.block_lt_of_cell? w _ hx238_0)).trans hx238_0; replace hx238_1 := (HB.out.cell (World.block_lt_of_cell? w _ hx238_1)).trans hx238_1; replace hx238_2 := (HB.out.cell (World.block_lt_of_cell? w _ hx238_2)).trans hx238_2; replace hx238_0 := (cell_far (p := ⟨gb237, 0, none⟩) (by first | (rw [add_block]; exact hn238_0) | (show (Addr.add _ _).block ≠ _; rw [add_block]; exact hn238_0) | exact hn238_0) (.int .i64 ((zal l0_2 x3_2).f0))).trans hx238_0
               replace hx238_1 := (cell_far (p := ⟨gb237, 0, none⟩) (by first | (rw [add_block]; exact hn238_0) | (show (Addr.add _ _).block ≠ _; rw [add_block]; exact hn238_0) | exact hn238_0) (.int .i64 ((zal l0_2 x3_2).f0))).trans hx238_1
               replace hx238_2 := (cell_far (p := ⟨gb237, 0, none⟩) (by first | (rw [add_block]; exact hn238_0) | (show (Addr.add _ _).block ≠ _; rw [add_block]; exact hn238_0) | exact hn238_0) (.int .i64 ((zal l0_2 x3_2).f0))).trans hx238_2
               replace hx238_0 := (cell_far (p := ⟨gb237, 1, none⟩) (by first | (rw [add_block]; exact hn238_1) | (show (Addr.add _ _).block ≠ _; rw [add_block]; exact hn238_1) | exact hn238_1) (.slice (some ad238) ((zal l0_2 x3_2).f1).length c236_1)).trans hx238_0
               replace hx238_1 := (cell_far (p := ⟨gb237, 1, none⟩) (by first | (rw [add_block]; exact hn238_1) | (show (Addr.add _ _).block ≠ _; rw [add_block]; exact hn238_1) | exact hn238_1) (.slice (some ad238) ((zal l0_2 x3_2).f1).length c236_1)).trans hx238_1
               replace hx238_2 := (cell_far (p := ⟨gb237, 1, none⟩) (by first | (rw [add_block]; exact hn238_1) | (show (Addr.add _ _).block ≠ _; rw [add_block]; exact hn238_1) | exact hn238_1) (.slice (some ad238) ((zal l0_2 x3_2).f1).length c236_1)).trans hx238_2
               (try have hy238_0 := fun (n_ : Nat) => (show ((((w16.drewN n_).setCell ⟨gb237, 0, none⟩ (.int .i64 ((zal l0_2 x3_2).f0))).setCell ⟨gb237, 1, none⟩ (.slice (some ad238) ((zal l0_2 x3_2).f1).length c236_1))).cell? _ = some _ from hx238_0))
               (try have hy238_1 := fun (n_ : Nat) => (show ((((w16.drewN n_).setCell ⟨gb237, 0, none⟩ (.int .i64 ((zal l0_2 x3_2).f0))).setCell ⟨gb237, 1, none⟩ (.slice (some ad238) ((zal l0_2 x3_2).f1).length c236_1))).cell? _ = some _ from hx238_1))
               (try have hy238_2 := fun (n_ : Nat) => (show ((((w16.drewN n_).setCell ⟨gb237, 0, none⟩ (.int .i64 ((zal l0_2 x3_2).f0))).setCell ⟨gb237, 1, none⟩ (.slice (some ad238) ((zal l0_2 x3_2).f1).length c236_1))).cell? _ = some _ from hx238_2))
               clear hn238_0; clear hn238_1; replace p238 := eq_true p238; replace q238 := eq_true q238; have hcz34_0 : w16.cell? ⟨gb235, 0, none⟩ = some (.slice A0_0 l0_0.length c0_0) := (zaa BK235.out 0).trans rfl; have hcz34_1 : w16.cell? ⟨gb235, 1, none⟩ = some (.slice A0_1 l0_1.length c0_1) := (zaa BK235.out 1).trans rfl; have hcz34_2 : w16.cell? ⟨gb235, 2, none⟩ = some (.slice (some ad236) l0_2.length c0_2) := (zaa BK235.out 2).trans rfl; have hfz34_0 := zae BK235.out 0; have hfz34_1 := zae BK235.out 1; have hfz34_2 := zae BK235.out 2; go_wp2
               repeat (go_quiet (fail); try go_wp2)
               go_meet
               case rel => exact ⟨_, (false), (by first | rfl | (simp; done) | (simp [*]; done)), H', ⟨by have := HJ1.out; have := HK2.out; first | omega | exact Nat.le_refl _⟩, ⟨by (with_reducible repeat (first | apply zai | apply zah | apply zad)); refine zar ?_ NB235_237.out _; (with_reducible repeat (first | apply zai | apply zah | apply zad)); refine zar ?_ NB235_237.out _; (with_reducible repeat (first | apply zai | apply zah | apply zad)); exact BK235.out⟩, ⟨by (with_reducible repeat (first | apply zai | apply zah | apply zad)); refine zat (cs := #[.int .i64 ((zal l0_2 x3_2).f0), .slice none 0 0]) ?_ 1 _ rfl; (with_reducible repeat (first | apply zai | apply zah | apply zad)); refine zat (cs := #[.int .i64 0, .slice none 0 0]) ?_ 0 _ rfl; (with_reducible repeat (first | apply zai | apply zah | apply zad)); exact BK237.out⟩, ⟨by repeat (first | (with_reducible first | exact HB.out | apply zac | apply zab | apply below_drew1 | refine zaf ?_ GE235.out | refine zaf ?_ GE237.out) | exact HB.out)⟩⟩
             ·rw [if_neg c23] at H; have c23b0 : (((zax ((zal l0_2 x3_2).f1) 0).f0) == (l0_0.length : Int)) = false := beq_eq_false_iff_ne.mpr c23; have c23b1 : (((zax ((zal l0_2 x3_2).f1) 0).f0) != (l0_0.length : Int)) = true := bne_iff_ne.mpr c23; have H' := zaj.mk H; clear H; have hnb35 := NB237_235.out; have hnc35 := NB235_237.out; have hcz36_0 : w16.cell? ⟨gb237, 0, none⟩ = some (.int .i64 0) := (zaa BK237.out 0).trans rfl; have hcz36_1 : w16.cell? ⟨gb237, 1, none⟩ = some (.slice none 0 0) := (zaa BK237.out 1).trans rfl; have hfz36_0 := zae BK237.out 0; have hfz36_1 := zae BK237.out 1; have p238 : 0 ≤ (0 : Int) := (by omega)
              have q238 : 0 < (((zal l0_2 x3_2).f1).length : Int) := of_decide_eq_true (by first | (with_reducible assumption) | assumption)
              obtain ⟨ad238, e238, hx238_0, hx238_1, hx238_2⟩ := zbm HR236_1.out 0 p238 q238; cases e238; have qi238 : (0 < ((zal l0_2 x3_2).f1).length) = True := eq_true (by omega)
              (try rw [show ((0 : Int)).toNat = 0 from rfl] at hx238_0)
              (try rw [show 0 * 3 = 0 from rfl] at hx238_0)
              (try rw [Addr.add_zero'] at hx238_0)
              (try rw [show ((0 : Int)).toNat = 0 from rfl] at hx238_1)
              (try rw [show 0 * 3 = 0 from rfl] at hx238_1)
              (try rw [Addr.add_zero'] at hx238_1)
              (try rw [show ((0 : Int)).toNat = 0 from rfl] at hx238_2)
              (try rw [show 0 * 3 = 0 from rfl] at hx238_2)
              (try rw [Addr.add_zero'] at hx238_2)
              have hn238_0 : ad238.block ≠ gb237 := Nat.ne_of_lt (Nat.lt_of_lt_of_le (by have := World.block_lt_of_cell? _ _ hx238_0; first | rwa [add_block] at this | exact this) GW237.out)
              have hn238_1 : ad238.block ≠ gb237 := Nat.ne_of_lt (Nat.lt_of_lt_of_le (by have := World.block_lt_of_cell? _ _ hx238_0; first | rwa [add_block] at this | exact this) GW237.out)
              replace hx238_0 := (HB.out.cell (World.block_lt_of_cell? w _ hx238_0)).trans hx238_0; replace hx238_1 := (HB.out.cell (World.block_lt_of_cell? w _ hx238_1)).trans hx238_1; replace hx238_2 := (HB.out.cell (World.block_lt_of_cell? w _ hx238_2)).trans hx238_2; replace hx238_0 := (cell_far (p := ⟨gb237, 0, none⟩) (by first | (rw [add_block]; exact hn238_0) | (show (Addr.add _ _).block ≠ _; rw [add_block]; exact hn238_0) | exact hn238_0) (.int .i64 ((zal l0_2 x3_2).f0))).trans hx238_0
              replace hx238_1 := (cell_far (p := ⟨gb237, 0, none⟩) (by first | (rw [add_block]; exact hn238_0) | (show (Addr.add _ _).block ≠ _; rw [add_block]; exact hn238_0) | exact hn238_0) (.int .i64 ((zal l0_2 x3_2).f0))).trans hx238_1
              replace hx238_2 := (cell_far (p := ⟨gb237, 0, none⟩) (by first | (rw [add_block]; exact hn238_0) | (show (Addr.add _ _).block ≠ _; rw [add_block]; exact hn238_0) | exact hn238_0) (.int .i64 ((zal l0_2 x3_2).f0))).trans hx238_2
              replace hx238_0 := (cell_far (p := ⟨gb237, 1, none⟩) (by first | (rw [add_block]; exact hn238_1) | (show (Addr.add _ _).block ≠ _; rw [add_block]; exact hn238_1) | exact hn238_1) (.slice (some ad238) ((zal l0_2 x3_2).f1).length c236_1)).trans hx238_0
              replace hx238_1 := (cell_far (p := ⟨gb237, 1, none⟩) (by first | (rw [add_block]; exact hn238_1) | (show (Addr.add _ _).block ≠ _; rw [add_block]; exact hn238_1) | exact hn238_1) (.slice (some ad238) ((zal l0_2 x3_2).f1).length c236_1)).trans hx238_1
              replace hx238_2 := (cell_far (p := ⟨gb237, 1, none⟩) (by first | (rw [add_block]; exact hn238_1) | (show (Addr.add _ _).block ≠ _; rw [add_block]; exact hn238_1) | exact hn238_1) (.slice (some ad238) ((zal l0_2 x3_2).f1).length c236_1)).trans hx238_2
              (try have hy238_0 := fun (n_ : Nat) => (show ((((w16.drewN n_).setCell ⟨gb237, 0, none⟩ (.int .i64 ((zal l0_2 x3_2).f0))).setCell ⟨gb237, 1, none⟩ (.slice (some ad238) ((zal l0_2 x3_2).f1).length c236_1))).cell? _ = some _ from hx238_0))
              (try have hy238_1 := fun (n_ : Nat) => (show ((((w16.drewN n_).setCell ⟨gb237, 0, none⟩ (.int .i64 ((zal l0_2 x3_2).f0))).setCell ⟨gb237, 1, none⟩ (.slice (some ad238) ((zal l0_2 x3_2).f1).length c236_1))).cell? _ = some _ from hx238_1))
              (try have hy238_2 := fun (n_ : Nat) => (show ((((w16.drewN n_).setCell ⟨gb237, 0, none⟩ (.int .i64 ((zal l0_2 x3_2).f0))).setCell ⟨gb237, 1, none⟩ (.slice (some ad238) ((zal l0_2 x3_2).f1).length c236_1))).cell? _ = some _ from hx238_2))
              clear hn238_0; clear hn238_1; replace p238 := eq_true p238; replace q238 := eq_true q238; have hcz37_0 : w16.cell? ⟨gb235, 0, none⟩ = some (.slice A0_0 l0_0.length c0_0) := (zaa BK235.out 0).trans rfl; have hcz37_1 : w16.cell? ⟨gb235, 1, none⟩ = some (.slice A0_1 l0_1.length c0_1) := (zaa BK235.out 1).trans rfl; have hcz37_2 : w16.cell? ⟨gb235, 2, none⟩ = some (.slice (some ad236) l0_2.length c0_2) := (zaa BK235.out 2).trans rfl; have hfz37_0 := zae BK235.out 0; have hfz37_1 := zae BK235.out 1; have hfz37_2 := zae BK235.out 2; go_wp2
              repeat (go_quiet (fail); try go_wp2)
              go_meet
              case rel => exact ⟨_, (true), (by first | rfl | (simp; done) | (simp [*]; done)), H', ⟨by have := HJ1.out; have := HK2.out; first | omega | exact Nat.le_refl _⟩, ⟨by (with_reducible repeat (first | apply zai | apply zah | apply zad)); refine zar ?_ NB235_237.out _; (with_reducible repeat (first | apply zai | apply zah | apply zad)); refine zar ?_ NB235_237.out _; (with_reducible repeat (first | apply zai | apply zah | apply zad)); exact BK235.out⟩, ⟨by (with_reducible repeat (first | apply zai | apply zah | apply zad)); refine zat (cs := #[.int .i64 ((zal l0_2 x3_2).f0), .slice none 0 0]) ?_ 1 _ rfl; (with_reducible repeat (first | apply zai | apply zah | apply zad)); refine zat (cs := #[.int .i64 0, .slice none 0 0]) ?_ 0 _ rfl; (with_reducible repeat (first | apply zai | apply zah | apply zad)); exact BK237.out⟩, ⟨by repeat (first | (with_reducible first | exact HB.out | apply zac | apply zab | apply below_drew1 | refine zaf ?_ GE235.out | refine zaf ?_ GE237.out) | exact HB.out)⟩⟩
            ·rw [if_neg c22] at H; exact absurd H (by simp)
           ·rw [if_neg c21] at H; have c21b0 : ((((zal l0_2 x3_2).f1).length : Int) == 1) = false := beq_eq_false_iff_ne.mpr c21; have c21b1 : ((((zal l0_2 x3_2).f1).length : Int) != 1) = true := bne_iff_ne.mpr c21; have H' := zaj.mk H; clear H; have hnb38 := NB237_235.out; have hnc38 := NB235_237.out; have hcz39_0 : w16.cell? ⟨gb237, 0, none⟩ = some (.int .i64 0) := (zaa BK237.out 0).trans rfl; have hcz39_1 : w16.cell? ⟨gb237, 1, none⟩ = some (.slice none 0 0) := (zaa BK237.out 1).trans rfl; have hfz39_0 := zae BK237.out 0; have hfz39_1 := zae BK237.out 1; go_wp2
            repeat (go_quiet (fail); try go_wp2)
            go_meet
            case rel => exact ⟨_, (true), (by first | rfl | (simp; done) | (simp [*]; done)), H', ⟨by have := HJ1.out; have := HK2.out; first | omega | exact Nat.le_refl _⟩, ⟨by (with_reducible repeat (first | apply zai | apply zah | apply zad)); refine zar ?_ NB235_237.out _; (with_reducible repeat (first | apply zai | apply zah | apply zad)); refine zar ?_ NB235_237.out _; (with_reducible repeat (first | apply zai | apply zah | apply zad)); exact BK235.out⟩, ⟨by (with_reducible repeat (first | apply zai | apply zah | apply zad)); refine zat (cs := #[.int .i64 ((zal l0_2 x3_2).f0), .slice none 0 0]) ?_ 1 _ rfl; (with_reducible repeat (first | apply zai | apply zah | apply zad)); refine zat (cs := #[.int .i64 0, .slice none 0 0]) ?_ 0 _ rfl; (with_reducible repeat (first | apply zai | apply zah | apply zad)); exact BK237.out⟩, ⟨by repeat (first | (with_reducible first | exact HB.out | apply zac | apply zab | apply below_drew1 | refine zaf ?_ GE235.out | refine zaf ?_ GE237.out) | exact HB.out)⟩⟩
          ·rw [if_neg c20] at H; have c20b0 : (((zal l0_2 x3_2).f0) == (-1)) = false := beq_eq_false_iff_ne.mpr c20; have c20b1 : (((zal l0_2 x3_2).f0) != (-1)) = true := bne_iff_ne.mpr c20; have H' := zaj.mk H; clear H; have hnb40 := NB237_235.out; have hnc40 := NB235_237.out; have hcz41_0 : w16.cell? ⟨gb237, 0, none⟩ = some (.int .i64 0) := (zaa BK237.out 0).trans rfl; have hcz41_1 : w16.cell? ⟨gb237, 1, none⟩ = some (.slice none 0 0) := (zaa BK237.out 1).trans rfl; have hfz41_0 := zae BK237.out 0; have hfz41_1 := zae BK237.out 1; go_wp2
           repeat (go_quiet (fail); try go_wp2)
           go_meet
           case rel => exact ⟨_, (true), (by first | rfl | (simp; done) | (simp [*]; done)), H', ⟨by have := HJ1.out; have := HK2.out; first | omega | exact Nat.le_refl _⟩, ⟨by (with_reducible repeat (first | apply zai | apply zah | apply zad)); refine zar ?_ NB235_237.out _; (with_reducible repeat (first | apply zai | apply zah | apply zad)); refine zar ?_ NB235_237.out _; (with_reducible repeat (first | apply zai | apply zah | apply zad)); exact BK235.out⟩, ⟨by (with_reducible repeat (first | apply zai | apply zah | apply zad)); refine zat (cs := #[.int .i64 ((zal l0_2 x3_2).f0), .slice none 0 0]) ?_ 1 _ rfl; (with_reducible repeat (first | apply zai | apply zah | apply zad)); refine zat (cs := #[.int .i64 0, .slice none 0 0]) ?_ 0 _ rfl; (with_reducible repeat (first | apply zai | apply zah | apply zad)); exact BK237.out⟩, ⟨by repeat (first | (with_reducible first | exact HB.out | apply zac | apply zab | apply below_drew1 | refine zaf ?_ GE235.out | refine zaf ?_ GE237.out) | exact HB.out)⟩⟩
         ·rw [if_neg c19] at H; have c19b0 : (x3_2 == 0) = false := beq_eq_false_iff_ne.mpr c19; have c19b1 : (x3_2 != 0) = true := bne_iff_ne.mpr c19
          (first | rw [c19b0] | (simp only [i64_w, i32_w]; rw [c19b0]) | skip)
          by_cases c42 : x3_2 > 0
          ·rw [if_pos c42] at H; have c42b0 : decide (0 < x3_2) = true := decide_eq_true c42; clear c42; by_cases c43 : ((zal l0_2 x3_2).f0) < 0
           ·rw [if_pos c43] at H; have c43b0 : decide (((zal l0_2 x3_2).f0) < 0) = true := decide_eq_true c43; clear c43; have H' := zaj.mk H; clear H; have hnb44 := NB237_235.out; have hnc44 := NB235_237.out; have hcz45_0 : w16.cell? ⟨gb237, 0, none⟩ = some (.int .i64 0) := (zaa BK237.out 0).trans rfl; have hcz45_1 : w16.cell? ⟨gb237, 1, none⟩ = some (.slice none 0 0) := (zaa BK237.out 1).trans rfl; have hfz45_0 := zae BK237.out 0; have hfz45_1 := zae BK237.out 1; go_wp2
            repeat (go_quiet (fail); try go_wp2)
            go_meet
            case rel => exact ⟨_, (true), (by first | rfl | (simp; done) | (simp [*]; done)), H', ⟨by have := HJ1.out; have := HK2.out; first | omega | exact Nat.le_refl _⟩, ⟨by (with_reducible repeat (first | apply zai | apply zah | apply zad)); refine zar ?_ NB235_237.out _; (with_reducible repeat (first | apply zai | apply zah | apply zad)); refine zar ?_ NB235_237.out _; (with_reducible repeat (first | apply zai | apply zah | apply zad)); exact BK235.out⟩, ⟨by (with_reducible repeat (first | apply zai | apply zah | apply zad)); refine zat (cs := #[.int .i64 ((zal l0_2 x3_2).f0), .slice none 0 0]) ?_ 1 _ rfl; (with_reducible repeat (first | apply zai | apply zah | apply zad)); refine zat (cs := #[.int .i64 0, .slice none 0 0]) ?_ 0 _ rfl; (with_reducible repeat (first | apply zai | apply zah | apply zad)); exact BK237.out⟩, ⟨by repeat (first | (with_reducible first | exact HB.out | apply zac | apply zab | apply below_drew1 | refine zaf ?_ GE235.out | refine zaf ?_ GE237.out) | exact HB.out)⟩⟩
           ·rw [if_neg c43] at H; have c43b0 : decide (((zal l0_2 x3_2).f0) < 0) = false := decide_eq_false c43; clear c43; have H' := zaj.mk H; clear H; have hnb46 := NB237_235.out; have hnc46 := NB235_237.out; have hcz47_0 : w16.cell? ⟨gb237, 0, none⟩ = some (.int .i64 0) := (zaa BK237.out 0).trans rfl; have hcz47_1 : w16.cell? ⟨gb237, 1, none⟩ = some (.slice none 0 0) := (zaa BK237.out 1).trans rfl; have hfz47_0 := zae BK237.out 0; have hfz47_1 := zae BK237.out 1; have hcz48_0 : w16.cell? ⟨gb235, 0, none⟩ = some (.slice A0_0 l0_0.length c0_0) := (zaa BK235.out 0).trans rfl; have hcz48_1 : w16.cell? ⟨gb235, 1, none⟩ = some (.slice A0_1 l0_1.length c0_1) := (zaa BK235.out 1).trans rfl; have hcz48_2 : w16.cell? ⟨gb235, 2, none⟩ = some (.slice (some ad236) l0_2.length c0_2) := (zaa BK235.out 2).trans rfl; have hfz48_0 := zae BK235.out 0; have hfz48_1 := zae BK235.out 1; have hfz48_2 := zae BK235.out 2; go_wp2
            repeat (go_quiet (fail); try go_wp2)
            go_meet
            case rel => exact ⟨_, (decide (((zal l0_2 x3_2).f0) ≥ (l0_1.length : Int))), (by first | rfl | (simp; done) | (simp [*]; done)), H', ⟨by have := HJ1.out; have := HK2.out; first | omega | exact Nat.le_refl _⟩, ⟨by (with_reducible repeat (first | apply zai | apply zah | apply zad)); refine zar ?_ NB235_237.out _; (with_reducible repeat (first | apply zai | apply zah | apply zad)); refine zar ?_ NB235_237.out _; (with_reducible repeat (first | apply zai | apply zah | apply zad)); exact BK235.out⟩, ⟨by (with_reducible repeat (first | apply zai | apply zah | apply zad)); refine zat (cs := #[.int .i64 ((zal l0_2 x3_2).f0), .slice none 0 0]) ?_ 1 _ rfl; (with_reducible repeat (first | apply zai | apply zah | apply zad)); refine zat (cs := #[.int .i64 0, .slice none 0 0]) ?_ 0 _ rfl; (with_reducible repeat (first | apply zai | apply zah | apply zad)); exact BK237.out⟩, ⟨by repeat (first | (with_reducible first | exact HB.out | apply zac | apply zab | apply below_drew1 | refine zaf ?_ GE235.out | refine zaf ?_ GE237.out) | exact HB.out)⟩⟩
          ·rw [if_neg c42] at H; have c42b0 : decide (0 < x3_2) = false := decide_eq_false c42; clear c42; have H' := zaj.mk H; clear H; go_wp2
           repeat (go_quiet (fail); try go_wp2)
           go_meet
           case rel => exact ⟨_, (false), (by first | rfl | (simp; done) | (simp [*]; done)), H', ⟨by have := HJ1.out; have := HK2.out; first | omega | exact Nat.le_refl _⟩, ⟨by (with_reducible repeat (first | apply zai | apply zah | apply zad)); refine zar ?_ NB235_237.out _; (with_reducible repeat (first | apply zai | apply zah | apply zad)); refine zar ?_ NB235_237.out _; (with_reducible repeat (first | apply zai | apply zah | apply zad)); exact BK235.out⟩, ⟨by (with_reducible repeat (first | apply zai | apply zah | apply zad)); refine zat (cs := #[.int .i64 ((zal l0_2 x3_2).f0), .slice none 0 0]) ?_ 1 _ rfl; (with_reducible repeat (first | apply zai | apply zah | apply zad)); refine zat (cs := #[.int .i64 0, .slice none 0 0]) ?_ 0 _ rfl; (with_reducible repeat (first | apply zai | apply zah | apply zad)); exact BK237.out⟩, ⟨by repeat (first | (with_reducible first | exact HB.out | apply zac | apply zab | apply below_drew1 | refine zaf ?_ GE235.out | refine zaf ?_ GE237.out) | exact HB.out)⟩⟩
        case rest =>
         clear HC14
         try clear c1
         try clear c2
         try clear p2
         try clear q2
         try clear hx2
         try clear qi2
         try clear c3
         try clear c4
         try clear c4b0
         try clear c4b1
         try clear c6
         try clear c6b0
         try clear c6b1
         try clear c7
         try clear c8
         try clear c8b0
         try clear c8b1
         try clear c11
         try clear c12
         try clear c12b0
         try clear c13
         try clear c13b0
         try clear c17
         try clear c19
         try clear c19b0
         try clear c19b1
         try clear c20
         try clear c20b0
         try clear c20b1
         try clear c21
         try clear c21b0
         try clear c21b1
         try clear c22
         try clear c22b0
         try clear c22b1
         try clear c23
         try clear c23b0
         try clear c23b1
         try clear p23
         try clear q23
         try clear hx23
         try clear qi23
         try clear c24
         try clear c24b0
         try clear c25
         try clear c25b0
         try clear c26
         try clear c29
         try clear c32
         try clear c35
         try clear c38
         try clear c40
         try clear c42
         try clear c42b0
         try clear c43
         try clear c43b0
         try clear c44
         try clear c46
         try clear hcz10_0
         try clear hcz10_1
         try clear hcz10_2
         try clear hcz15_0
         try clear hcz15_1
         try clear hcz15_2
         try clear hcz18_0
         try clear hcz18_1
         try clear hcz27_0
         try clear hcz27_1
         try clear hcz28_0
         try clear hcz28_1
         try clear hcz28_2
         try clear hcz30_0
         try clear hcz30_1
         try clear hcz31_0
         try clear hcz31_1
         try clear hcz31_2
         try clear hcz33_0
         try clear hcz33_1
         try clear hcz34_0
         try clear hcz34_1
         try clear hcz34_2
         try clear hcz36_0
         try clear hcz36_1
         try clear hcz37_0
         try clear hcz37_1
         try clear hcz37_2
         try clear hcz39_0
         try clear hcz39_1
         try clear hcz41_0
         try clear hcz41_1
         try clear hcz45_0
         try clear hcz45_1
         try clear hcz47_0
         try clear hcz47_1
         try clear hcz48_0
         try clear hcz48_1
         try clear hcz48_2
         try clear hcz5_0
         try clear hcz5_1
         try clear hcz5_2
         try clear hcz7_0
         try clear hcz7_1
         try clear hcz7_2
         try clear hcz9_0
         try clear hcz9_1
         try clear hcz9_2
         try clear hfz10_0
         try clear hfz10_1
         try clear hfz10_2
         try clear hfz15_0
         try clear hfz15_1
         try clear hfz15_2
         try clear hfz18_0
         try clear hfz18_1
         try clear hfz27_0
         try clear hfz27_1
         try clear hfz28_0
         try clear hfz28_1
         try clear hfz28_2
         try clear hfz30_0
         try clear hfz30_1
         try clear hfz31_0
         try clear hfz31_1
         try clear hfz31_2
         try clear hfz33_0
         try clear hfz33_1
         try clear hfz34_0
         try clear hfz34_1
         try clear hfz34_2
         try clear hfz36_0
         try clear hfz36_1
         try clear hfz37_0
         try clear hfz37_1
         try clear hfz37_2
         try clear hfz39_0
         try clear hfz39_1
         try clear hfz41_0
         try clear hfz41_1
         try clear hfz45_0
         try clear hfz45_1
         try clear hfz47_0
         try clear hfz47_1
         try clear hfz48_0
         try clear hfz48_1
         try clear hfz48_2
         try clear hfz5_0
         try clear hfz5_1
         try clear hfz5_2
         try clear hfz7_0
         try clear hfz7_1
         try clear hfz7_2
         try clear hfz9_0
         try clear hfz9_1
         try clear hfz9_2
         try clear hx236_0
         try clear hx236_1
         try clear hx238_0
         try clear hx238_1
         try clear hx238_2
         try clear p2
         try clear p236
         try clear p238
         try clear q236
         try clear q238
         obtain ⟨kq, x80_13, rfl, HA, HJ13, BK235, BK237, HB⟩ := hcut; cases kq with
         | zero => exact absurd HA.out (by simp [trellisref12_Right.j2])
         | succ kj13 =>
          have H := HA.out; clear HA; simp only [trellisref12_Right.j2] at H; by_cases c49 : x80_13 = true
          ·subst c49; have H1 : (some false) = some r := by rw [if_pos rfl] at H; exact H
           clear H; have H := H1; clear H1; obtain rfl := Option.some.inj H; go_wp2
           repeat (go_quiet (fail); try go_wp2)
           go_ret; exact ⟨by first | rfl | (simp [errW_none, errW_some] <;> rfl) | (simp [*, errW_none, errW_some] <;> rfl), by repeat (first | (with_reducible first | exact HB.out | apply zac | apply zab | apply below_drew1 | refine zaf ?_ GE235.out | refine zaf ?_ GE237.out) | exact HB.out)⟩
          ·replace c49 := Bool.eq_false_iff.mpr c49; subst c49; have H1 : (trellisref12_Right.l1 kj13 x3_2 0 l0_0 l0_1 l0_2 ((zal l0_2 x3_2).f0) ((zal l0_2 x3_2).f1)) = some r := by rw [if_neg (show ¬ (false = true) by decide)] at H; exact H
           clear H; have H := H1; clear H1; have H' := zaj.mk H; clear H; go_wp2
           repeat (go_quiet (fail); try go_wp2)
           go_loopg [5] kj13 (fun kq v5 w' => ∃ (x5_4 : Int), v5 = .int .i64 x5_4 ∧ zaj (trellisref12_Right.l1 kq x3_2 x5_4 l0_0 l0_1 l0_2 ((zal l0_2 x3_2).f0) ((zal l0_2 x3_2).f1) = some r) ∧ zaj (kq ≤ kj13) ∧ zaj (w'.heap[gb235]? = some (.cells #[(.slice A0_0 l0_0.length c0_0), (.slice A0_1 l0_1.length c0_1), (.slice (some ad236) l0_2.length c0_2)] 51 (0, 0))) ∧ zaj (w'.heap[gb237]? = some (.cells #[.int .i64 ((zal l0_2 x3_2).f0), (.slice A236_1 ((zal l0_2 x3_2).f1).length c236_1)] 77 (0, 0))) ∧ zaj (Below w.heap.size w w'))
           case atStart => exact ⟨(0), (by first | rfl | (simp; done) | (simp [*]; done)), H', ⟨Nat.le_refl _⟩, ⟨by (with_reducible repeat (first | apply zai | apply zah | apply zad)); exact BK235.out⟩, ⟨by (with_reducible repeat (first | apply zai | apply zah | apply zad)); exact BK237.out⟩, ⟨by repeat (first | (with_reducible first | exact HB.out | apply zac | apply zab | apply below_drew1 | refine zaf ?_ GE235.out | refine zaf ?_ GE237.out) | exact HB.out)⟩⟩
           case round =>
            clear H'
            try clear c1
            try clear c2
            try clear p2
            try clear q2
            try clear hx2
            try clear qi2
            try clear c3
            try clear c4
            try clear c4b0
            try clear c4b1
            try clear c6
            try clear c6b0
            try clear c6b1
            try clear c7
            try clear c8
            try clear c8b0
            try clear c8b1
            try clear c11
            try clear c12
            try clear c12b0
            try clear c13
            try clear c13b0
            try clear c17
            try clear c19
            try clear c19b0
            try clear c19b1
            try clear c20
            try clear c20b0
            try clear c20b1
            try clear c21
            try clear c21b0
            try clear c21b1
            try clear c22
            try clear c22b0
            try clear c22b1
            try clear c23
            try clear c23b0
            try clear c23b1
            try clear p23
            try clear q23
            try clear hx23
            try clear qi23
            try clear c24
            try clear c24b0
            try clear c25
            try clear c25b0
            try clear c26
            try clear c29
            try clear c32
            try clear c35
            try clear c38
            try clear c40
            try clear c42
            try clear c42b0
            try clear c43
            try clear c43b0
            try clear c44
            try clear c46
            try clear c49
            try clear hcz10_0
            try clear hcz10_1
            try clear hcz10_2
            try clear hcz15_0
            try clear hcz15_1
            try clear hcz15_2
            try clear hcz18_0
            try clear hcz18_1
            try clear hcz27_0
            try clear hcz27_1
            try clear hcz28_0
            try clear hcz28_1
            try clear hcz28_2
            try clear hcz30_0
            try clear hcz30_1
            try clear hcz31_0
            try clear hcz31_1
            try clear hcz31_2
            try clear hcz33_0
            try clear hcz33_1
            try clear hcz34_0
            try clear hcz34_1
            try clear hcz34_2
            try clear hcz36_0
            try clear hcz36_1
            try clear hcz37_0
            try clear hcz37_1
            try clear hcz37_2
            try clear hcz39_0
            try clear hcz39_1
            try clear hcz41_0
            try clear hcz41_1
            try clear hcz45_0
            try clear hcz45_1
            try clear hcz47_0
            try clear hcz47_1
            try clear hcz48_0
            try clear hcz48_1
            try clear hcz48_2
            try clear hcz5_0
            try clear hcz5_1
            try clear hcz5_2
            try clear hcz7_0
            try clear hcz7_1
            try clear hcz7_2
            try clear hcz9_0
            try clear hcz9_1
            try clear hcz9_2
            try clear hfz10_0
            try clear hfz10_1
            try clear hfz10_2
            try clear hfz15_0
            try clear hfz15_1
            try clear hfz15_2
            try clear hfz18_0
            try clear hfz18_1
            try clear hfz27_0
            try clear hfz27_1
            try clear hfz28_0
            try clear hfz28_1
            try clear hfz28_2
            try clear hfz30_0
            try clear hfz30_1
            try clear hfz31_0
            try clear hfz31_1
            try clear hfz31_2
            try clear hfz33_0
            try clear hfz33_1
            try clear hfz34_0
            try clear hfz34_1
            try clear hfz34_2
            try clear hfz36_0
            try clear hfz36_1
            try clear hfz37_0
            try clear hfz37_1
            try clear hfz37_2
            try clear hfz39_0
            try clear hfz39_1
            try clear hfz41_0
            try clear hfz41_1
            try clear hfz45_0
            try clear hfz45_1
            try clear hfz47_0
            try clear hfz47_1
            try clear hfz48_0
            try clear hfz48_1
            try clear hfz48_2
            try clear hfz5_0
            try clear hfz5_1
            try clear hfz5_2
            try clear hfz7_0
            try clear hfz7_1
            try clear hfz7_2
            try clear hfz9_0
            try clear hfz9_1
            try clear hfz9_2
            try clear hx236_0
            try clear hx236_1
            try clear hx238_0
            try clear hx238_1
            try clear hx238_2
            try clear p2
            try clear p23
            try clear p236
            try clear p238
            try clear q2
            try clear q23
            try clear q236
            try clear q238
            obtain ⟨x5_4, rfl, HA, HK4, BK235, BK237, HB⟩ := hrel; cases gk with
            | zero => exact absurd HA.out (by simp [trellisref12_Right.l1])
            | succ k4 =>
             have H := HA.out; clear HA; simp only [trellisref12_Right.l1] at H; by_cases c50 : x5_4 < (((zal l0_2 x3_2).f1).length : Int)
             ·rw [if_pos c50] at H; have c50b0 : decide (x5_4 < (((zal l0_2 x3_2).f1).length : Int)) = true := decide_eq_true c50; clear c50; by_cases c51 : 0 ≤ x5_4
              ·rw [if_pos c51] at H; have c51b0 : decide (0 ≤ x5_4) = true := decide_eq_true c51; clear c51; by_cases c52 : ((zax ((zal l0_2 x3_2).f1) x5_4).f0) < 1
               ·rw [if_pos c52] at H; have c52b0 : decide (((zax ((zal l0_2 x3_2).f1) x5_4).f0) < 1) = true := decide_eq_true c52; clear c52; obtain rfl := Option.some.inj H; have hnb53 := NB237_235.out; have hnc53 := NB235_237.out; have hcz54_0 : wr.cell? ⟨gb237, 0, none⟩ = some (.int .i64 ((zal l0_2 x3_2).f0)) := (zaa BK237.out 0).trans rfl; have hcz54_1 : wr.cell? ⟨gb237, 1, none⟩ = some (.slice A236_1 ((zal l0_2 x3_2).f1).length c236_1) := (zaa BK237.out 1).trans rfl; have hfz54_0 := zae BK237.out 0; have hfz54_1 := zae BK237.out 1; have p239 : 0 ≤ (x5_4 : Int) := of_decide_eq_true (by first | (with_reducible assumption) | assumption)
                have q239 : x5_4 < (((zal l0_2 x3_2).f1).length : Int) := of_decide_eq_true (by first | (with_reducible assumption) | assumption)
                obtain ⟨ad239, e239, hx239_0, hx239_1, hx239_2⟩ := zbm HR236_1.out x5_4 p239 q239; cases e239; replace hx239_0 := (HB.out.cell (World.block_lt_of_cell? w _ hx239_0)).trans hx239_0; replace hx239_1 := (HB.out.cell (World.block_lt_of_cell? w _ hx239_1)).trans hx239_1; replace hx239_2 := (HB.out.cell (World.block_lt_of_cell? w _ hx239_2)).trans hx239_2; replace p239 := eq_true p239; replace q239 := eq_true q239; go_wp2
                repeat (go_quiet (fail); try go_wp2)
                go_ret; exact ⟨by first | rfl | (simp [errW_none, errW_some] <;> rfl) | (simp [*, errW_none, errW_some] <;> rfl), by repeat (first | (with_reducible first | exact HB.out | apply zac | apply zab | apply below_drew1 | refine zaf ?_ GE235.out | refine zaf ?_ GE237.out) | exact HB.out)⟩
               ·rw [if_neg c52] at H; have c52b0 : decide (((zax ((zal l0_2 x3_2).f1) x5_4).f0) < 1) = false := decide_eq_false c52; clear c52; by_cases c55 : ((zax ((zal l0_2 x3_2).f1) x5_4).f0) ≥ (wrap64 ((l0_0.length : Int) + (l0_1.length : Int)))
                ·rw [if_pos c55] at H; have c55b0 : decide ((wrap64 ((l0_0.length : Int) + (l0_1.length : Int))) ≤ ((zax ((zal l0_2 x3_2).f1) x5_4).f0)) = true := decide_eq_true c55; clear c55; obtain rfl := Option.some.inj H; have hnb56 := NB237_235.out; have hnc56 := NB235_237.out; have hcz57_0 : wr.cell? ⟨gb237, 0, none⟩ = some (.int .i64 ((zal l0_2 x3_2).f0)) := (zaa BK237.out 0).trans rfl; have hcz57_1 : wr.cell? ⟨gb237, 1, none⟩ = some (.slice A236_1 ((zal l0_2 x3_2).f1).length c236_1) := (zaa BK237.out 1).trans rfl; have hfz57_0 := zae BK237.out 0; have hfz57_1 := zae BK237.out 1; have p239 : 0 ≤ (x5_4 : Int) := of_decide_eq_true (by first | (with_reducible assumption) | assumption)
                 have q239 : x5_4 < (((zal l0_2 x3_2).f1).length : Int) := of_decide_eq_true (by first | (with_reducible assumption) | assumption)
                 obtain ⟨ad239, e239, hx239_0, hx239_1, hx239_2⟩ := zbm HR236_1.out x5_4 p239 q239; cases e239; replace hx239_0 := (HB.out.cell (World.block_lt_of_cell? w _ hx239_0)).trans hx239_0; replace hx239_1 := (HB.out.cell (World.block_lt_of_cell? w _ hx239_1)).trans hx239_1; replace hx239_2 := (HB.out.cell (World.block_lt_of_cell? w _ hx239_2)).trans hx239_2; replace p239 := eq_true p239; replace q239 := eq_true q239; have p240 : 0 ≤ (x5_4 : Int) := of_decide_eq_true (by first | (with_reducible assumption) | assumption)
                 have q240 : x5_4 < (((zal l0_2 x3_2).f1).length : Int) := of_decide_eq_true (by first | (with_reducible assumption) | assumption)
                 obtain ⟨ad240, e240, hx240_0, hx240_1, hx240_2⟩ := zbm HR236_1.out x5_4 p240 q240; obtain rfl : ad239 = ad240 := (by injection e240)
                 replace hx240_0 := (HB.out.cell (World.block_lt_of_cell? w _ hx240_0)).trans hx240_0; replace hx240_1 := (HB.out.cell (World.block_lt_of_cell? w _ hx240_1)).trans hx240_1; replace hx240_2 := (HB.out.cell (World.block_lt_of_cell? w _ hx240_2)).trans hx240_2; replace p240 := eq_true p240; replace q240 := eq_true q240; have hcz58_0 : wr.cell? ⟨gb235, 0, none⟩ = some (.slice A0_0 l0_0.length c0_0) := (zaa BK235.out 0).trans rfl; have hcz58_1 : wr.cell? ⟨gb235, 1, none⟩ = some (.slice A0_1 l0_1.length c0_1) := (zaa BK235.out 1).trans rfl; have hcz58_2 : wr.cell? ⟨gb235, 2, none⟩ = some (.slice (some ad236) l0_2.length c0_2) := (zaa BK235.out 2).trans rfl; have hfz58_0 := zae BK235.out 0; have hfz58_1 := zae BK235.out 1; have hfz58_2 := zae BK235.out 2; go_wp2
                 repeat (go_quiet (fail); try go_wp2)
                 go_ret; exact ⟨by first | rfl | (simp [errW_none, errW_some] <;> rfl) | (simp [*, errW_none, errW_some] <;> rfl), by repeat (first | (with_reducible first | exact HB.out | apply zac | apply zab | apply below_drew1 | refine zaf ?_ GE235.out | refine zaf ?_ GE237.out) | exact HB.out)⟩
                ·rw [if_neg c55] at H; have c55b0 : decide ((wrap64 ((l0_0.length : Int) + (l0_1.length : Int))) ≤ ((zax ((zal l0_2 x3_2).f1) x5_4).f0)) = false := decide_eq_false c55; clear c55; have H' := zaj.mk H; clear H; have hnb59 := NB237_235.out; have hnc59 := NB235_237.out; have hcz60_0 : wr.cell? ⟨gb237, 0, none⟩ = some (.int .i64 ((zal l0_2 x3_2).f0)) := (zaa BK237.out 0).trans rfl; have hcz60_1 : wr.cell? ⟨gb237, 1, none⟩ = some (.slice A236_1 ((zal l0_2 x3_2).f1).length c236_1) := (zaa BK237.out 1).trans rfl; have hfz60_0 := zae BK237.out 0; have hfz60_1 := zae BK237.out 1; have p239 : 0 ≤ (x5_4 : Int) := of_decide_eq_true (by first | (with_reducible assumption) | assumption)
                 have q239 : x5_4 < (((zal l0_2 x3_2).f1).length : Int) := of_decide_eq_true (by first | (with_reducible assumption) | assumption)
                 obtain ⟨ad239, e239, hx239_0, hx239_1, hx239_2⟩ := zbm HR236_1.out x5_4 p239 q239; cases e239; replace hx239_0 := (HB.out.cell (World.block_lt_of_cell? w _ hx239_0)).trans hx239_0; replace hx239_1 := (HB.out.cell (World.block_lt_of_cell? w _ hx239_1)).trans hx239_1; replace hx239_2 := (HB.out.cell (World.block_lt_of_cell? w _ hx239_2)).trans hx239_2; replace p239 := eq_true p239; replace q239 := eq_true q239; have p240 : 0 ≤ (x5_4 : Int) := of_decide_eq_true (by first | (with_reducible assumption) | assumption)
                 have q240 : x5_4 < (((zal l0_2 x3_2).f1).length : Int) := of_decide_eq_true (by first | (with_reducible assumption) | assumption)
                 obtain ⟨ad240, e240, hx240_0, hx240_1, hx240_2⟩ := zbm HR236_1.out x5_4 p240 q240; obtain rfl : ad239 = ad240 := (by injection e240)
                 replace hx240_0 := (HB.out.cell (World.block_lt_of_cell? w _ hx240_0)).trans hx240_0; replace hx240_1 := (HB.out.cell (World.block_lt_of_cell? w _ hx240_1)).trans hx240_1; replace hx240_2 := (HB.out.cell (World.block_lt_of_cell? w _ hx240_2)).trans hx240_2; replace p240 := eq_true p240; replace q240 := eq_true q240; have hcz61_0 : wr.cell? ⟨gb235, 0, none⟩ = some (.slice A0_0 l0_0.length c0_0) := (zaa BK235.out 0).trans rfl; have hcz61_1 : wr.cell? ⟨gb235, 1, none⟩ = some (.slice A0_1 l0_1.length c0_1) := (zaa BK235.out 1).trans rfl; have hcz61_2 : wr.cell? ⟨gb235, 2, none⟩ = some (.slice (some ad236) l0_2.length c0_2) := (zaa BK235.out 2).trans rfl; have hfz61_0 := zae BK235.out 0; have hfz61_1 := zae BK235.out 1; have hfz61_2 := zae BK235.out 2; go_wp2
                 repeat (go_quiet (fail); try go_wp2)
                 go_roundg k4
                 case measure => have := HJ1.out; have := HK2.out; have := HJ13.out; have := HK4.out; omega
                 case rel => exact ⟨(wrap64 (x5_4 + 1)), (by first | rfl | (simp; done) | (simp [*]; done)), H', ⟨by have := HJ1.out; have := HK2.out; have := HJ13.out; have := HK4.out; omega⟩, ⟨by (with_reducible repeat (first | apply zai | apply zah | apply zad)); exact BK235.out⟩, ⟨by (with_reducible repeat (first | apply zai | apply zah | apply zad)); exact BK237.out⟩, ⟨by repeat (first | (with_reducible first | exact HB.out | apply zac | apply zab | apply below_drew1 | refine zaf ?_ GE235.out | refine zaf ?_ GE237.out) | exact HB.out)⟩⟩
              ·rw [if_neg c51] at H; exact absurd H (by simp)
             ·rw [if_neg c50] at H; have c50b0 : decide (x5_4 < (((zal l0_2 x3_2).f1).length : Int)) = false := decide_eq_false c50; clear c50; have H' := zaj.mk H; clear H; have hnb62 := NB237_235.out; have hnc62 := NB235_237.out; have hcz63_0 : wr.cell? ⟨gb237, 0, none⟩ = some (.int .i64 ((zal l0_2 x3_2).f0)) := (zaa BK237.out 0).trans rfl; have hcz63_1 : wr.cell? ⟨gb237, 1, none⟩ = some (.slice A236_1 ((zal l0_2 x3_2).f1).length c236_1) := (zaa BK237.out 1).trans rfl; have hfz63_0 := zae BK237.out 0; have hfz63_1 := zae BK237.out 1; go_wp2
              repeat (go_quiet (fail); try go_wp2)
              go_roundg k4
              case measure => have := HJ1.out; have := HK2.out; have := HJ13.out; have := HK4.out; omega
              case rel => exact ⟨(wrap64 (x3_2 + 1)), (by first | rfl | (simp; done) | (simp [*]; done)), H', ⟨by have := HJ1.out; have := HK2.out; have := HJ13.out; have := HK4.out; omega⟩, ⟨by (with_reducible repeat (first | apply zai | apply zah | apply zad)); exact BK235.out⟩, ⟨by repeat (first | (with_reducible first | exact HB.out | apply zac | apply zab | apply below_drew1 | refine zaf ?_ GE235.out | refine zaf ?_ GE237.out) | exact HB.out)⟩⟩
       ·rw [if_neg c13] at H; exact absurd H (by simp)
      ·rw [if_neg c12] at H; have c12b0 : decide (x3_2 < (l0_2.length : Int)) = false := decide_eq_false c12; clear c12; obtain rfl := Option.some.inj H; have hcz64_0 : wr.cell? ⟨gb235, 0, none⟩ = some (.slice A0_0 l0_0.length c0_0) := (zaa BK235.out 0).trans rfl; have hcz64_1 : wr.cell? ⟨gb235, 1, none⟩ = some (.slice A0_1 l0_1.length c0_1) := (zaa BK235.out 1).trans rfl; have hcz64_2 : wr.cell? ⟨gb235, 2, none⟩ = some (.slice A0_2 l0_2.length c0_2) := (zaa BK235.out 2).trans rfl; have hfz64_0 := zae BK235.out 0; have hfz64_1 := zae BK235.out 1; have hfz64_2 := zae BK235.out 2; go_wp2
       repeat (go_quiet (fail); try go_wp2)
       go_ret; exact ⟨by first | rfl | (simp [errW_none, errW_some] <;> rfl) | (simp [*, errW_none, errW_some] <;> rfl), by repeat (first | (with_reducible first | exact HB.out | apply zac | apply zab | apply below_drew1 | refine zaf ?_ GE235.out) | exact HB.out)⟩
end Go.Proofs.YtcijanmckhlpiaaDoor.PTableBuilds
