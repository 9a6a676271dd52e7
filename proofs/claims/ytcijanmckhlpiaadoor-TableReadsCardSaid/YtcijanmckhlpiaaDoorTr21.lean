-- Texts of this seat, cut to what is used and merged (by shake.py).
import Derived.Test.YtcijanmckhlpiaaDoorTr15
namespace Go.Proofs.YtcijanmckhlpiaaDoor.PTableBack
open Go.RowKit Go.Proofs.YtcijanmckhlpiaaDoorW.PrintWords Go.Proofs.YtcijanmckhlpiaaDoorW.PrintLast Go.Proofs.YtcijanmckhlpiaaDoorW.PrintMore
attribute [local go_sem] max2_int min2_int max_two min_two max_three min_three max_four min_four   
set_option linter.unusedVariables false
set_option linter.unusedSimpArgs false
attribute [local go_sem high] eqA93
mutual
def trellislaw13_same.j0 : Nat → Bool → List (List (S93)) → List (List Int) → List (List (S93)) → List (List Int) → Option (Bool)
  | 0, _, _, _, _, _ => none
  | k + 1, x24, x114000, x114001, x115000, x115001 => if x24 = true then (some false) else (trellislaw13_same.l0 k 0 x114000 x114001 x115000 x115001)
def trellislaw13_same.l0 : Nat → Int → List (List (S93)) → List (List Int) → List (List (S93)) → List (List Int) → Option (Bool)
  | 0, _, _, _, _, _ => none
  | k + 1, x5, x114000, x114001, x115000, x115001 => if x5 < (x114000.length : Int) then (if 0 ≤ x5 then (if x5 < (x115000.length : Int) then (if ((rd_L2 x114000 x5).length : Int) = ((rd_L2 x115000 x5).length : Int) then (trellislaw13_same.l1 k x5 0 x114000 x114001 x115000 x115001) else (some false)) else (none)) else (none)) else (trellislaw13_same.l2 k 0 x114000 x114001 x115000 x115001)
def trellislaw13_same.l1 : Nat → Int → Int → List (List (S93)) → List (List Int) → List (List (S93)) → List (List Int) → Option (Bool)
  | 0, _, _, _, _, _, _ => none
  | k + 1, x5, x6, x114000, x114001, x115000, x115001 => if 0 ≤ x5 then (if x5 < (x114000.length : Int) then (if x6 < ((rd_L2 x114000 x5).length : Int) then (if 0 ≤ x6 then (if x5 < (x115000.length : Int) then (if x6 < ((rd_L2 x115000 x5).length : Int) then (if (!(((rd_T93 (rd_L2 x114000 x5) x6).f0) == ((rd_T93 (rd_L2 x115000 x5) x6).f0)) || (!(((rd_T93 (rd_L2 x114000 x5) x6).f1) == ((rd_T93 (rd_L2 x115000 x5) x6).f1)))) = true then (some false) else (trellislaw13_same.l1 k x5 (wrap64 (x6 + 1)) x114000 x114001 x115000 x115001)) else (none)) else (none)) else (none)) else (trellislaw13_same.l0 k (wrap64 (x5 + 1)) x114000 x114001 x115000 x115001)) else (none)) else (none)
def trellislaw13_same.l2 : Nat → Int → List (List (S93)) → List (List Int) → List (List (S93)) → List (List Int) → Option (Bool)
  | 0, _, _, _, _, _ => none
  | k + 1, x7, x114000, x114001, x115000, x115001 => if x7 < (x114001.length : Int) then (if 0 ≤ x7 then (if x7 < (x115001.length : Int) then (if ((rd_L3 x114001 x7).length : Int) = ((rd_L3 x115001 x7).length : Int) then (trellislaw13_same.l3 k x7 0 x114000 x114001 x115000 x115001) else (some false)) else (none)) else (none)) else (some true)
def trellislaw13_same.l3 : Nat → Int → Int → List (List (S93)) → List (List Int) → List (List (S93)) → List (List Int) → Option (Bool)
  | 0, _, _, _, _, _, _ => none
  | k + 1, x7, x8, x114000, x114001, x115000, x115001 => if 0 ≤ x7 then (if x7 < (x114001.length : Int) then (if x8 < ((rd_L3 x114001 x7).length : Int) then (if 0 ≤ x8 then (if x7 < (x115001.length : Int) then (if x8 < ((rd_L3 x115001 x7).length : Int) then (if (rd (rd_L3 x114001 x7) x8) = (rd (rd_L3 x115001 x7) x8) then (trellislaw13_same.l3 k x7 (wrap64 (x8 + 1)) x114000 x114001 x115000 x115001) else (some false)) else (none)) else (none)) else (none)) else (trellislaw13_same.l2 k (wrap64 (x7 + 1)) x114000 x114001 x115000 x115001)) else (none)) else (none)
end
def trellislaw13_same.f (k : Nat) (l0_0 : List (List (S93))) (l0_1 : List (List Int)) (l1_0 : List (List (S93))) (l1_1 : List (List Int)) : Option (Bool) := if (l0_0.length : Int) = (l1_0.length : Int) then (trellislaw13_same.j0 k ((l0_1.length : Int) != (l1_1.length : Int)) l0_0 l0_1 l1_0 l1_1) else (trellislaw13_same.j0 k true l0_0 l0_1 l1_0 l1_1)
set_option maxHeartbeats 8000000 in
set_option maxRecDepth 100000 in
theorem trellislaw13_same.calls (k : Nat) (A0_0 : Option Addr) (c0_0 : Nat) (l0_0 : List (List (S93))) (A0_1 : Option Addr) (c0_1 : Nat) (l0_1 : List (List Int)) (A1_0 : Option Addr) (c1_0 : Nat) (l1_0 : List (List (S93))) (A1_1 : Option Addr) (c1_1 : Nat) (l1_1 : List (List Int)) (r : Bool) (w : World) (hr0_0 : Kd.C (Kd.slice 93 k93) w A0_0 l0_0.length l0_0) (hc0_0 : l0_0.length ≤ c0_0) (hr0_1 : Kd.C (Kd.slice 3 (Kd.int .i64)) w A0_1 l0_1.length l0_1) (hc0_1 : l0_1.length ≤ c0_1) (hr1_0 : Kd.C (Kd.slice 93 k93) w A1_0 l1_0.length l1_0) (hc1_0 : l1_0.length ≤ c1_0) (hr1_1 : Kd.C (Kd.slice 3 (Kd.int .i64)) w A1_1 l1_1.length l1_1) (hc1_1 : l1_1.length ≤ c1_1) (h : trellislaw13_same.f k l0_0 l0_1 l1_0 l1_1 = some r) :
    Calls Tryd.prog 12 #[.agg #[.slice A0_0 l0_0.length c0_0, .slice A0_1 l0_1.length c0_1], .agg #[.slice A1_0 l1_0.length c1_0, .slice A1_1 l1_1.length c1_1]] w fun e w' => e = .returned (.bool r) ∧ Below w.heap.size w w' := by
  have hu25 := Tryd.underlying25
  have hu93 := Tryd.underlying93
  have HR0_0 := Aside0.mk hr0_0
  have HC0_0 := Aside0.mk hc0_0
  clear hr0_0 hc0_0
  have HR0_1 := Aside0.mk hr0_1
  have HC0_1 := Aside0.mk hc0_1
  clear hr0_1 hc0_1
  have HR1_0 := Aside0.mk hr1_0
  have HC1_0 := Aside0.mk hc1_0
  clear hr1_0 hc1_0
  have HR1_1 := Aside0.mk hr1_1
  have HC1_1 := Aside0.mk hc1_1
  clear hr1_1 hc1_1
  have HB := Aside0.mk (Below.refl w.heap.size w)
  have H : (if (l0_0.length : Int) = (l1_0.length : Int) then (trellislaw13_same.j0 k ((l0_1.length : Int) != (l1_1.length : Int)) l0_0 l0_1 l1_0 l1_1) else (trellislaw13_same.j0 k true l0_0 l0_1 l1_0 l1_1)) = some r := h
  clear h
  have HC3 := Aside0.mk H
  clear H
  go_enter Tryd.func12, Tryd.ntmps12
  go_upto_region 1 with (first | ((with_reducible refine gate_dst (N := 2) rfl ?_); (try (refine gate_guard (by rfl) ?_; dsimp only)); refine box_event ?hg (N := 2) ?hd (cs := #[.slice A0_0 l0_0.length c0_0, .slice A0_1 l0_1.length c0_1]) (t := 25) ?hr ?_; (case hd => rfl); (case hg => rfl); (case hr => first | (go_simp; done) | (go_simp; rfl)); intro gb113 hg w4 hbox hb; have n0_ := Aside0.mk (below_step (by repeat (first | (with_reducible first | exact HB.out | apply below_alloc | apply pw_below_drewN | apply below_drew1) | exact HB.out)) hb); have n1_ := Aside0.mk (hbox); have n2_ := Aside0.mk ((by rw [hg]; exact (below_size (by repeat (first | (with_reducible first | exact HB.out | apply below_alloc | apply pw_below_drewN | apply below_drew1) | exact HB.out))) : w.heap.size ≤ gb113)); have n3_ := Aside0.mk ((by rw [hg]; exact (below_size (by repeat (first | (with_reducible first | exact HB.out | apply below_alloc | apply pw_below_drewN | apply below_drew1) | exact HB.out))) : w.heap.size ≤ gb113)); clear HB; have HB := n0_; have BK113 := n1_; have GW113 := n2_; have GE113 := n3_; clear n0_ n1_ n2_ n3_; clear hb hbox hg) | ((with_reducible refine gate_dst (N := 3) rfl ?_); (try (refine gate_guard (by rfl) ?_; dsimp only)); refine box_event ?hg (N := 3) ?hd (cs := #[.slice A1_0 l1_0.length c1_0, .slice A1_1 l1_1.length c1_1]) (t := 25) ?hr ?_; (case hd => rfl); (case hg => rfl); (case hr => first | (go_simp; done) | (go_simp; rfl)); intro gb114 hg w5 hbox hb; have n0_ := Aside0.mk (blk_below (g := gb113) (o := .cells #[.slice A0_0 l0_0.length c0_0, .slice A0_1 l0_1.length c0_1] 25 (0, 0)) (by (with_reducible repeat (first | refine blk_drewN ?_ _ | refine blk_drew ?_ | refine blk_alloc ?_ _)); exact BK113.out) hb); have n1_ := Aside0.mk (below_step (by repeat (first | (with_reducible first | exact HB.out | apply below_alloc | apply pw_below_drewN | apply below_drew1 | refine below_set ?_ GE113.out) | exact HB.out)) hb); have n2_ := Aside0.mk (hbox); have n3_ := Aside0.mk ((by rw [hg]; exact (below_size (by repeat (first | (with_reducible first | exact HB.out | apply below_alloc | apply pw_below_drewN | apply below_drew1 | refine below_set ?_ GE113.out) | exact HB.out))) : w.heap.size ≤ gb114)); have n4_ := Aside0.mk ((by rw [hg]; exact (below_size (by repeat (first | (with_reducible first | exact HB.out | apply below_alloc | apply pw_below_drewN | apply below_drew1 | refine below_set ?_ GE113.out) | exact HB.out))) : w.heap.size ≤ gb114)); have n5_ := Aside0.mk ((by rw [hg]; exact Nat.ne_of_lt (blk_lt (g := gb113) (o := .cells #[.slice A0_0 l0_0.length c0_0, .slice A0_1 l0_1.length c0_1] 25 (0, 0)) (by (with_reducible repeat (first | refine blk_drewN ?_ _ | refine blk_drew ?_ | refine blk_alloc ?_ _)); exact BK113.out)) : gb113 ≠ gb114)); have n6_ := Aside0.mk ((by rw [hg]; exact Nat.ne_of_gt (blk_lt (g := gb113) (o := .cells #[.slice A0_0 l0_0.length c0_0, .slice A0_1 l0_1.length c0_1] 25 (0, 0)) (by (with_reducible repeat (first | refine blk_drewN ?_ _ | refine blk_drew ?_ | refine blk_alloc ?_ _)); exact BK113.out)) : gb114 ≠ gb113)); clear BK113; clear HB; have BK113 := n0_; have HB := n1_; have BK114 := n2_; have GW114 := n3_; have GE114 := n4_; have NB113_114 := n5_; have NB114_113 := n6_; clear n0_ n1_ n2_ n3_ n4_ n5_ n6_; clear hb hbox hg))
  repeat (go_quiet (first | ((with_reducible refine gate_dst (N := 2) rfl ?_); (try (refine gate_guard (by rfl) ?_; dsimp only)); refine box_event ?hg (N := 2) ?hd (cs := #[.slice A0_0 l0_0.length c0_0, .slice A0_1 l0_1.length c0_1]) (t := 25) ?hr ?_; (case hd => rfl); (case hg => rfl); (case hr => first | (go_simp; done) | (go_simp; rfl)); intro gb113 hg w4 hbox hb; have n0_ := Aside0.mk (below_step (by repeat (first | (with_reducible first | exact HB.out | apply below_alloc | apply pw_below_drewN | apply below_drew1) | exact HB.out)) hb); have n1_ := Aside0.mk (hbox); have n2_ := Aside0.mk ((by rw [hg]; exact (below_size (by repeat (first | (with_reducible first | exact HB.out | apply below_alloc | apply pw_below_drewN | apply below_drew1) | exact HB.out))) : w.heap.size ≤ gb113)); have n3_ := Aside0.mk ((by rw [hg]; exact (below_size (by repeat (first | (with_reducible first | exact HB.out | apply below_alloc | apply pw_below_drewN | apply below_drew1) | exact HB.out))) : w.heap.size ≤ gb113)); clear HB; have HB := n0_; have BK113 := n1_; have GW113 := n2_; have GE113 := n3_; clear n0_ n1_ n2_ n3_; clear hb hbox hg) | ((with_reducible refine gate_dst (N := 3) rfl ?_); (try (refine gate_guard (by rfl) ?_; dsimp only)); refine box_event ?hg (N := 3) ?hd (cs := #[.slice A1_0 l1_0.length c1_0, .slice A1_1 l1_1.length c1_1]) (t := 25) ?hr ?_; (case hd => rfl); (case hg => rfl); (case hr => first | (go_simp; done) | (go_simp; rfl)); intro gb114 hg w5 hbox hb; have n0_ := Aside0.mk (blk_below (g := gb113) (o := .cells #[.slice A0_0 l0_0.length c0_0, .slice A0_1 l0_1.length c0_1] 25 (0, 0)) (by (with_reducible repeat (first | refine blk_drewN ?_ _ | refine blk_drew ?_ | refine blk_alloc ?_ _)); exact BK113.out) hb); have n1_ := Aside0.mk (below_step (by repeat (first | (with_reducible first | exact HB.out | apply below_alloc | apply pw_below_drewN | apply below_drew1 | refine below_set ?_ GE113.out) | exact HB.out)) hb); have n2_ := Aside0.mk (hbox); have n3_ := Aside0.mk ((by rw [hg]; exact (below_size (by repeat (first | (with_reducible first | exact HB.out | apply below_alloc | apply pw_below_drewN | apply below_drew1 | refine below_set ?_ GE113.out) | exact HB.out))) : w.heap.size ≤ gb114)); have n4_ := Aside0.mk ((by rw [hg]; exact (below_size (by repeat (first | (with_reducible first | exact HB.out | apply below_alloc | apply pw_below_drewN | apply below_drew1 | refine below_set ?_ GE113.out) | exact HB.out))) : w.heap.size ≤ gb114)); have n5_ := Aside0.mk ((by rw [hg]; exact Nat.ne_of_lt (blk_lt (g := gb113) (o := .cells #[.slice A0_0 l0_0.length c0_0, .slice A0_1 l0_1.length c0_1] 25 (0, 0)) (by (with_reducible repeat (first | refine blk_drewN ?_ _ | refine blk_drew ?_ | refine blk_alloc ?_ _)); exact BK113.out)) : gb113 ≠ gb114)); have n6_ := Aside0.mk ((by rw [hg]; exact Nat.ne_of_gt (blk_lt (g := gb113) (o := .cells #[.slice A0_0 l0_0.length c0_0, .slice A0_1 l0_1.length c0_1] 25 (0, 0)) (by (with_reducible repeat (first | refine blk_drewN ?_ _ | refine blk_drew ?_ | refine blk_alloc ?_ _)); exact BK113.out)) : gb114 ≠ gb113)); clear BK113; clear HB; have BK113 := n0_; have HB := n1_; have BK114 := n2_; have GW114 := n3_; have GE114 := n4_; have NB113_114 := n5_; have NB114_113 := n6_; clear n0_ n1_ n2_ n3_ n4_ n5_ n6_; clear hb hbox hg)); go_upto_region 1 with (first | ((with_reducible refine gate_dst (N := 2) rfl ?_); (try (refine gate_guard (by rfl) ?_; dsimp only)); refine box_event ?hg (N := 2) ?hd (cs := #[.slice A0_0 l0_0.length c0_0, .slice A0_1 l0_1.length c0_1]) (t := 25) ?hr ?_; (case hd => rfl); (case hg => rfl); (case hr => first | (go_simp; done) | (go_simp; rfl)); intro gb113 hg w4 hbox hb; have n0_ := Aside0.mk (below_step (by repeat (first | (with_reducible first | exact HB.out | apply below_alloc | apply pw_below_drewN | apply below_drew1) | exact HB.out)) hb); have n1_ := Aside0.mk (hbox); have n2_ := Aside0.mk ((by rw [hg]; exact (below_size (by repeat (first | (with_reducible first | exact HB.out | apply below_alloc | apply pw_below_drewN | apply below_drew1) | exact HB.out))) : w.heap.size ≤ gb113)); have n3_ := Aside0.mk ((by rw [hg]; exact (below_size (by repeat (first | (with_reducible first | exact HB.out | apply below_alloc | apply pw_below_drewN | apply below_drew1) | exact HB.out))) : w.heap.size ≤ gb113)); clear HB; have HB := n0_; have BK113 := n1_; have GW113 := n2_; have GE113 := n3_; clear n0_ n1_ n2_ n3_; clear hb hbox hg) | ((with_reducible refine gate_dst (N := 3) rfl ?_); (try (refine gate_guard (by rfl) ?_; dsimp only)); refine box_event ?hg (N := 3) ?hd (cs := #[.slice A1_0 l1_0.length c1_0, .slice A1_1 l1_1.length c1_1]) (t := 25) ?hr ?_; (case hd => rfl); (case hg => rfl); (case hr => first | (go_simp; done) | (go_simp; rfl)); intro gb114 hg w5 hbox hb; have n0_ := Aside0.mk (blk_below (g := gb113) (o := .cells #[.slice A0_0 l0_0.length c0_0, .slice A0_1 l0_1.length c0_1] 25 (0, 0)) (by (with_reducible repeat (first | refine blk_drewN ?_ _ | refine blk_drew ?_ | refine blk_alloc ?_ _)); exact BK113.out) hb); have n1_ := Aside0.mk (below_step (by repeat (first | (with_reducible first | exact HB.out | apply below_alloc | apply pw_below_drewN | apply below_drew1 | refine below_set ?_ GE113.out) | exact HB.out)) hb); have n2_ := Aside0.mk (hbox); have n3_ := Aside0.mk ((by rw [hg]; exact (below_size (by repeat (first | (with_reducible first | exact HB.out | apply below_alloc | apply pw_below_drewN | apply below_drew1 | refine below_set ?_ GE113.out) | exact HB.out))) : w.heap.size ≤ gb114)); have n4_ := Aside0.mk ((by rw [hg]; exact (below_size (by repeat (first | (with_reducible first | exact HB.out | apply below_alloc | apply pw_below_drewN | apply below_drew1 | refine below_set ?_ GE113.out) | exact HB.out))) : w.heap.size ≤ gb114)); have n5_ := Aside0.mk ((by rw [hg]; exact Nat.ne_of_lt (blk_lt (g := gb113) (o := .cells #[.slice A0_0 l0_0.length c0_0, .slice A0_1 l0_1.length c0_1] 25 (0, 0)) (by (with_reducible repeat (first | refine blk_drewN ?_ _ | refine blk_drew ?_ | refine blk_alloc ?_ _)); exact BK113.out)) : gb113 ≠ gb114)); have n6_ := Aside0.mk ((by rw [hg]; exact Nat.ne_of_gt (blk_lt (g := gb113) (o := .cells #[.slice A0_0 l0_0.length c0_0, .slice A0_1 l0_1.length c0_1] 25 (0, 0)) (by (with_reducible repeat (first | refine blk_drewN ?_ _ | refine blk_drew ?_ | refine blk_alloc ?_ _)); exact BK113.out)) : gb114 ≠ gb113)); clear BK113; clear HB; have BK113 := n0_; have HB := n1_; have BK114 := n2_; have GW114 := n3_; have GE114 := n4_; have NB113_114 := n5_; have NB114_113 := n6_; clear n0_ n1_ n2_ n3_ n4_ n5_ n6_; clear hb hbox hg)))
  (try simp only [Act.put, List.setIfInBounds_toArray, List.set_cons_zero, List.set_cons_succ])
  go_cut [24] (fun v24 wc => ∃ (kq : Nat) (x24_2 : Bool), v24 = .bool x24_2 ∧ Aside0 (trellislaw13_same.j0 kq x24_2 l0_0 l0_1 l1_0 l1_1 = some r) ∧ Aside0 (kq ≤ k) ∧ Aside0 (wc.heap[gb113]? = some (.cells #[(.slice A0_0 l0_0.length c0_0), (.slice A0_1 l0_1.length c0_1)] 25 (0, 0))) ∧ Aside0 (wc.heap[gb114]? = some (.cells #[(.slice A1_0 l1_0.length c1_0), (.slice A1_1 l1_1.length c1_1)] 25 (0, 0))) ∧ Aside0 (Below w.heap.size w wc))
  case first =>
    have H := HC3.out
    clear HC3
    by_cases c6 : (l0_0.length : Int) = (l1_0.length : Int)
    · rw [if_pos c6] at H
      have c6b0 : ((l0_0.length : Int) == (l1_0.length : Int)) = true := beq_iff_eq.mpr c6
      have c6b1 : ((l0_0.length : Int) != (l1_0.length : Int)) = false := bne_eq_false_iff_eq.mpr c6
      have c6b2 : (l0_0.length == l1_0.length) = true := by first | simpa using c6 | (simp at c6 ⊢; omega)
      clear c6
      (first | rw [c6b0] | (simp only [i64_w, i32_w]; rw [c6b0]) | skip)
      have H' := Aside0.mk H
      clear H
      have hnb7 := NB113_114.out
      have hnc7 := NB114_113.out
      have hcz8_0 : w5.cell? ⟨gb113, 0, none⟩ = some (.slice A0_0 l0_0.length c0_0) := (blk_cell BK113.out 0).trans rfl
      have hcz8_1 : w5.cell? ⟨gb113, 1, none⟩ = some (.slice A0_1 l0_1.length c0_1) := (blk_cell BK113.out 1).trans rfl
      have hfz8_0 := blk_frozen BK113.out 0
      have hfz8_1 := blk_frozen BK113.out 1
      have hcz9_0 : w5.cell? ⟨gb114, 0, none⟩ = some (.slice A1_0 l1_0.length c1_0) := (blk_cell BK114.out 0).trans rfl
      have hcz9_1 : w5.cell? ⟨gb114, 1, none⟩ = some (.slice A1_1 l1_1.length c1_1) := (blk_cell BK114.out 1).trans rfl
      have hfz9_0 := blk_frozen BK114.out 0
      have hfz9_1 := blk_frozen BK114.out 1
      go_wp2
      repeat (go_quiet (fail); try go_wp2)
      go_meet
      case rel => exact ⟨_, (((l0_1.length : Int) != (l1_1.length : Int))), (by first | rfl | (simp; done) | (simp [*]; done)), H', ⟨by first | omega | exact Nat.le_refl _⟩, ⟨by (with_reducible repeat (first | refine blk_drewN ?_ _ | refine blk_drew ?_ | refine blk_alloc ?_ _)); exact BK113.out⟩, ⟨by (with_reducible repeat (first | refine blk_drewN ?_ _ | refine blk_drew ?_ | refine blk_alloc ?_ _)); exact BK114.out⟩, ⟨by repeat (first | (with_reducible first | exact HB.out | apply below_alloc | apply pw_below_drewN | apply below_drew1 | refine below_set ?_ GE113.out | refine below_set ?_ GE114.out) | exact HB.out)⟩⟩
    · rw [if_neg c6] at H
      have c6b0 : ((l0_0.length : Int) == (l1_0.length : Int)) = false := beq_eq_false_iff_ne.mpr c6
      have c6b1 : ((l0_0.length : Int) != (l1_0.length : Int)) = true := bne_iff_ne.mpr c6
      have c6b2 : (l0_0.length == l1_0.length) = false := by first | simpa using c6 | (simp at c6 ⊢; omega)
      (first | rw [c6b0] | (simp only [i64_w, i32_w]; rw [c6b0]) | skip)
      have H' := Aside0.mk H
      clear H
      have hnb10 := NB113_114.out
      have hnc10 := NB114_113.out
      have hcz11_0 : w5.cell? ⟨gb113, 0, none⟩ = some (.slice A0_0 l0_0.length c0_0) := (blk_cell BK113.out 0).trans rfl
      have hcz11_1 : w5.cell? ⟨gb113, 1, none⟩ = some (.slice A0_1 l0_1.length c0_1) := (blk_cell BK113.out 1).trans rfl
      have hfz11_0 := blk_frozen BK113.out 0
      have hfz11_1 := blk_frozen BK113.out 1
      have hcz12_0 : w5.cell? ⟨gb114, 0, none⟩ = some (.slice A1_0 l1_0.length c1_0) := (blk_cell BK114.out 0).trans rfl
      have hcz12_1 : w5.cell? ⟨gb114, 1, none⟩ = some (.slice A1_1 l1_1.length c1_1) := (blk_cell BK114.out 1).trans rfl
      have hfz12_0 := blk_frozen BK114.out 0
      have hfz12_1 := blk_frozen BK114.out 1
      go_wp2
      repeat (go_quiet (fail); try go_wp2)
      go_meet
      case rel => exact ⟨_, (true), (by first | rfl | (simp; done) | (simp [*]; done)), H', ⟨by first | omega | exact Nat.le_refl _⟩, ⟨by (with_reducible repeat (first | refine blk_drewN ?_ _ | refine blk_drew ?_ | refine blk_alloc ?_ _)); exact BK113.out⟩, ⟨by (with_reducible repeat (first | refine blk_drewN ?_ _ | refine blk_drew ?_ | refine blk_alloc ?_ _)); exact BK114.out⟩, ⟨by repeat (first | (with_reducible first | exact HB.out | apply below_alloc | apply pw_below_drewN | apply below_drew1 | refine below_set ?_ GE113.out | refine below_set ?_ GE114.out) | exact HB.out)⟩⟩
  case rest =>
    clear HC3
    try clear c1
    try clear p2
    try clear c6
    try clear c6b0
    try clear c6b1
    try clear c6b2
    try clear c7
    try clear c10
    try clear c12
    try clear hcz11_0
    try clear hcz11_1
    try clear hcz12_0
    try clear hcz12_1
    try clear hcz8_0
    try clear hcz8_1
    try clear hcz9_0
    try clear hcz9_1
    try clear hfz11_0
    try clear hfz11_1
    try clear hfz12_0
    try clear hfz12_1
    try clear hfz8_0
    try clear hfz8_1
    try clear hfz9_0
    try clear hfz9_1
    obtain ⟨kq, x24_2, rfl, HA, HJ2, BK113, BK114, HB⟩ := hcut
    cases kq with
    | zero => exact absurd HA.out (by simp [trellislaw13_same.j0])
    | succ kj2 =>
      have H := HA.out
      clear HA
      simp only [trellislaw13_same.j0] at H
      by_cases c13 : x24_2 = true
      · subst c13
        have H1 : (some false) = some r := by rw [if_pos rfl] at H; exact H
        clear H
        have H := H1
        clear H1
        obtain rfl := Option.some.inj H
        go_wp2
        repeat (go_quiet (fail); try go_wp2)
        go_ret
        exact ⟨by first | rfl | (simp [errW_none, errW_some] <;> rfl) | (simp [*, errW_none, errW_some] <;> rfl), by repeat (first | (with_reducible first | exact HB.out | apply below_alloc | apply pw_below_drewN | apply below_drew1 | refine below_set ?_ GE113.out | refine below_set ?_ GE114.out) | exact HB.out)⟩
      · replace c13 := Bool.eq_false_iff.mpr c13
        subst c13
        have H1 : (trellislaw13_same.l0 kj2 0 l0_0 l0_1 l1_0 l1_1) = some r := by rw [if_neg (show ¬ (false = true) by decide)] at H; exact H
        clear H
        have H := H1
        clear H1
        have H' := Aside0.mk H
        clear H
        go_wp2
        repeat (go_quiet (fail); try go_wp2)
        go_loopg [5] kj2 (fun kq v5 w' => ∃ (x5_2 : Int), v5 = .int .i64 x5_2 ∧ Aside0 (trellislaw13_same.l0 kq x5_2 l0_0 l0_1 l1_0 l1_1 = some r) ∧ Aside0 (kq ≤ kj2) ∧ Aside0 (w'.heap[gb113]? = some (.cells #[(.slice A0_0 l0_0.length c0_0), (.slice A0_1 l0_1.length c0_1)] 25 (0, 0))) ∧ Aside0 (w'.heap[gb114]? = some (.cells #[(.slice A1_0 l1_0.length c1_0), (.slice A1_1 l1_1.length c1_1)] 25 (0, 0))) ∧ Aside0 (Below w.heap.size w w'))
        case atStart => exact ⟨(0), (by first | rfl | (simp; done) | (simp [*]; done)), H', ⟨Nat.le_refl _⟩, ⟨by (with_reducible repeat (first | refine blk_drewN ?_ _ | refine blk_drew ?_ | refine blk_alloc ?_ _)); exact BK113.out⟩, ⟨by (with_reducible repeat (first | refine blk_drewN ?_ _ | refine blk_drew ?_ | refine blk_alloc ?_ _)); exact BK114.out⟩, ⟨by repeat (first | (with_reducible first | exact HB.out | apply below_alloc | apply pw_below_drewN | apply below_drew1 | refine below_set ?_ GE113.out | refine below_set ?_ GE114.out) | exact HB.out)⟩⟩
        case round =>
          clear H'
          try clear c1
          try clear p2
          try clear c6
          try clear c6b0
          try clear c6b1
          try clear c6b2
          try clear c7
          try clear c10
          try clear c12
          try clear c13
          try clear hcz11_0
          try clear hcz11_1
          try clear hcz12_0
          try clear hcz12_1
          try clear hcz8_0
          try clear hcz8_1
          try clear hcz9_0
          try clear hcz9_1
          try clear hfz11_0
          try clear hfz11_1
          try clear hfz12_0
          try clear hfz12_1
          try clear hfz8_0
          try clear hfz8_1
          try clear hfz9_0
          try clear hfz9_1
          try clear p2
          obtain ⟨x5_2, rfl, HA, HK2, BK113, BK114, HB⟩ := hrel
          cases gk with
          | zero => exact absurd HA.out (by simp [trellislaw13_same.l0])
          | succ k2 =>
            have H := HA.out
            clear HA
            simp only [trellislaw13_same.l0] at H
            by_cases c14 : x5_2 < (l0_0.length : Int)
            · rw [if_pos c14] at H
              have c14b0 : decide (x5_2 < (l0_0.length : Int)) = true := decide_eq_true c14
              clear c14
              by_cases c15 : 0 ≤ x5_2
              · rw [if_pos c15] at H
                have c15b0 : decide (0 ≤ x5_2) = true := decide_eq_true c15
                clear c15
                by_cases c16 : x5_2 < (l1_0.length : Int)
                · rw [if_pos c16] at H
                  have c16b0 : decide (x5_2 < (l1_0.length : Int)) = true := decide_eq_true c16
                  clear c16
                  by_cases c17 : ((rd_L2 l0_0 x5_2).length : Int) = ((rd_L2 l1_0 x5_2).length : Int)
                  · rw [if_pos c17] at H
                    have c17b0 : (((rd_L2 l0_0 x5_2).length : Int) == ((rd_L2 l1_0 x5_2).length : Int)) = true := beq_iff_eq.mpr c17
                    have c17b1 : (((rd_L2 l0_0 x5_2).length : Int) != ((rd_L2 l1_0 x5_2).length : Int)) = false := bne_eq_false_iff_eq.mpr c17
                    have c17b2 : ((rd_L2 l0_0 x5_2).length == (rd_L2 l1_0 x5_2).length) = true := by first | simpa using c17 | (simp at c17 ⊢; omega)
                    clear c17
                    have H' := Aside0.mk H
                    clear H
                    have hnb18 := NB113_114.out
                    have hnc18 := NB114_113.out
                    have hcz19_0 : wr.cell? ⟨gb113, 0, none⟩ = some (.slice A0_0 l0_0.length c0_0) := (blk_cell BK113.out 0).trans rfl
                    have hcz19_1 : wr.cell? ⟨gb113, 1, none⟩ = some (.slice A0_1 l0_1.length c0_1) := (blk_cell BK113.out 1).trans rfl
                    have hfz19_0 := blk_frozen BK113.out 0
                    have hfz19_1 := blk_frozen BK113.out 1
                    have p115 : 0 ≤ (x5_2 : Int) := of_decide_eq_true (by first | (with_reducible assumption) | assumption)
                    have q115 : x5_2 < (l0_0.length : Int) := of_decide_eq_true (by first | (with_reducible assumption) | assumption)
                    obtain ⟨ad115, A115_0, c115_0, e115, hx115_0, hl115_0, hi115_0⟩ := at_L2 HR0_0.out x5_2 p115 q115
                    cases e115
                    replace hx115_0 := (HB.out.cell (World.block_lt_of_cell? w _ hx115_0)).trans hx115_0
                    have HR115_0 := Aside0.mk hi115_0
                    have HC115_0 := Aside0.mk hl115_0
                    clear hi115_0 hl115_0
                    replace p115 := eq_true p115
                    replace q115 := eq_true q115
                    have hcz20_0 : wr.cell? ⟨gb114, 0, none⟩ = some (.slice A1_0 l1_0.length c1_0) := (blk_cell BK114.out 0).trans rfl
                    have hcz20_1 : wr.cell? ⟨gb114, 1, none⟩ = some (.slice A1_1 l1_1.length c1_1) := (blk_cell BK114.out 1).trans rfl
                    have hfz20_0 := blk_frozen BK114.out 0
                    have hfz20_1 := blk_frozen BK114.out 1
                    have p116 : 0 ≤ (x5_2 : Int) := of_decide_eq_true (by first | (with_reducible assumption) | assumption)
                    have q116 : x5_2 < (l1_0.length : Int) := of_decide_eq_true (by first | (with_reducible assumption) | assumption)
                    obtain ⟨ad116, A116_0, c116_0, e116, hx116_0, hl116_0, hi116_0⟩ := at_L2 HR1_0.out x5_2 p116 q116
                    cases e116
                    replace hx116_0 := (HB.out.cell (World.block_lt_of_cell? w _ hx116_0)).trans hx116_0
                    have HR116_0 := Aside0.mk hi116_0
                    have HC116_0 := Aside0.mk hl116_0
                    clear hi116_0 hl116_0
                    replace p116 := eq_true p116
                    replace q116 := eq_true q116
                    go_wp2
                    repeat (go_quiet (fail); try go_wp2)
                    go_loopg [6] k2 (fun kq v6 w' => ∃ (x6_3 : Int), v6 = .int .i64 x6_3 ∧ Aside0 (trellislaw13_same.l1 kq x5_2 x6_3 l0_0 l0_1 l1_0 l1_1 = some r) ∧ Aside0 (kq ≤ k2) ∧ Aside0 (w'.heap[gb113]? = some (.cells #[(.slice (some ad115) l0_0.length c0_0), (.slice A0_1 l0_1.length c0_1)] 25 (0, 0))) ∧ Aside0 (w'.heap[gb114]? = some (.cells #[(.slice (some ad116) l1_0.length c1_0), (.slice A1_1 l1_1.length c1_1)] 25 (0, 0))) ∧ Aside0 (Below w.heap.size w w'))
                    case atStart => exact ⟨(0), (by first | rfl | (simp; done) | (simp [*]; done)), H', ⟨Nat.le_refl _⟩, ⟨by (with_reducible repeat (first | refine blk_drewN ?_ _ | refine blk_drew ?_ | refine blk_alloc ?_ _)); exact BK113.out⟩, ⟨by (with_reducible repeat (first | refine blk_drewN ?_ _ | refine blk_drew ?_ | refine blk_alloc ?_ _)); exact BK114.out⟩, ⟨by repeat (first | (with_reducible first | exact HB.out | apply below_alloc | apply pw_below_drewN | apply below_drew1 | refine below_set ?_ GE113.out | refine below_set ?_ GE114.out) | exact HB.out)⟩⟩
                    case round =>
                      clear H'
                      try clear c1
                      try clear p1
                      try clear q1
                      try clear hx1
                      try clear p2
                      try clear c6
                      try clear c6b0
                      try clear c6b1
                      try clear c6b2
                      try clear c7
                      try clear c10
                      try clear c11
                      try clear p11
                      try clear q11
                      try clear hx11
                      try clear c12
                      try clear c13
                      try clear c14
                      try clear c14b0
                      try clear c15
                      try clear c15b0
                      try clear c16
                      try clear c16b0
                      try clear c17
                      try clear c17b0
                      try clear c17b1
                      try clear c17b2
                      try clear c18
                      try clear hcz11_0
                      try clear hcz11_1
                      try clear hcz12_0
                      try clear hcz12_1
                      try clear hcz19_0
                      try clear hcz19_1
                      try clear hcz20_0
                      try clear hcz20_1
                      try clear hcz8_0
                      try clear hcz8_1
                      try clear hcz9_0
                      try clear hcz9_1
                      try clear hfz11_0
                      try clear hfz11_1
                      try clear hfz12_0
                      try clear hfz12_1
                      try clear hfz19_0
                      try clear hfz19_1
                      try clear hfz20_0
                      try clear hfz20_1
                      try clear hfz8_0
                      try clear hfz8_1
                      try clear hfz9_0
                      try clear hfz9_1
                      try clear hx115_0
                      try clear hx116_0
                      try clear p115
                      try clear p116
                      try clear p2
                      try clear q115
                      try clear q116
                      obtain ⟨x6_3, rfl, HA, HK3, BK113, BK114, HB⟩ := hrel
                      cases gk with
                      | zero => exact absurd HA.out (by simp [trellislaw13_same.l1])
                      | succ k3 =>
                        have H := HA.out
                        clear HA
                        simp only [trellislaw13_same.l1] at H
                        by_cases c21 : 0 ≤ x5_2
                        · rw [if_pos c21] at H
                          have c21b0 : decide (0 ≤ x5_2) = true := decide_eq_true c21
                          clear c21
                          by_cases c22 : x5_2 < (l0_0.length : Int)
                          · rw [if_pos c22] at H
                            have c22b0 : decide (x5_2 < (l0_0.length : Int)) = true := decide_eq_true c22
                            clear c22
                            by_cases c23 : x6_3 < ((rd_L2 l0_0 x5_2).length : Int)
                            · rw [if_pos c23] at H
                              have c23b0 : decide (x6_3 < ((rd_L2 l0_0 x5_2).length : Int)) = true := decide_eq_true c23
                              clear c23
                              by_cases c24 : 0 ≤ x6_3
                              · rw [if_pos c24] at H
                                have c24b0 : decide (0 ≤ x6_3) = true := decide_eq_true c24
                                clear c24
                                by_cases c25 : x5_2 < (l1_0.length : Int)
                                · rw [if_pos c25] at H
                                  have c25b0 : decide (x5_2 < (l1_0.length : Int)) = true := decide_eq_true c25
                                  clear c25
                                  by_cases c26 : x6_3 < ((rd_L2 l1_0 x5_2).length : Int)
                                  · rw [if_pos c26] at H
                                    have c26b0 : decide (x6_3 < ((rd_L2 l1_0 x5_2).length : Int)) = true := decide_eq_true c26
                                    clear c26
                                    by_cases c27 : (!(((rd_T93 (rd_L2 l0_0 x5_2) x6_3).f0) == ((rd_T93 (rd_L2 l1_0 x5_2) x6_3).f0)) || (!(((rd_T93 (rd_L2 l0_0 x5_2) x6_3).f1) == ((rd_T93 (rd_L2 l1_0 x5_2) x6_3).f1)))) = true
                                    · rw [if_pos c27] at H
                                      have c27b0 : (!(((rd_T93 (rd_L2 l0_0 x5_2) x6_3).f0) == ((rd_T93 (rd_L2 l1_0 x5_2) x6_3).f0)) || (!(((rd_T93 (rd_L2 l0_0 x5_2) x6_3).f1) == ((rd_T93 (rd_L2 l1_0 x5_2) x6_3).f1)))) = true := c27
                                      clear c27
                                      obtain rfl := Option.some.inj H
                                      have hnb28 := NB113_114.out
                                      have hnc28 := NB114_113.out
                                      have hcz29_0 : wr.cell? ⟨gb113, 0, none⟩ = some (.slice (some ad115) l0_0.length c0_0) := (blk_cell BK113.out 0).trans rfl
                                      have hcz29_1 : wr.cell? ⟨gb113, 1, none⟩ = some (.slice A0_1 l0_1.length c0_1) := (blk_cell BK113.out 1).trans rfl
                                      have hfz29_0 := blk_frozen BK113.out 0
                                      have hfz29_1 := blk_frozen BK113.out 1
                                      have p117 : 0 ≤ (x5_2 : Int) := of_decide_eq_true (by first | (with_reducible assumption) | assumption)
                                      have q117 : x5_2 < (l0_0.length : Int) := of_decide_eq_true (by first | (with_reducible assumption) | assumption)
                                      obtain ⟨ad117, A117_0, c117_0, e117, hx117_0, hl117_0, hi117_0⟩ := at_L2 HR0_0.out x5_2 p117 q117
                                      obtain rfl : ad115 = ad117 := (by injection e117)
                                      replace hx117_0 := (HB.out.cell (World.block_lt_of_cell? w _ hx117_0)).trans hx117_0
                                      have HR117_0 := Aside0.mk hi117_0
                                      have HC117_0 := Aside0.mk hl117_0
                                      clear hi117_0 hl117_0
                                      replace p117 := eq_true p117
                                      replace q117 := eq_true q117
                                      have p118 : 0 ≤ (x5_2 : Int) := of_decide_eq_true (by first | (with_reducible assumption) | assumption)
                                      have q118 : x5_2 < (l0_0.length : Int) := of_decide_eq_true (by first | (with_reducible assumption) | assumption)
                                      obtain ⟨ad118, A118_0, c118_0, e118, hx118_0, hl118_0, hi118_0⟩ := at_L2 HR0_0.out x5_2 p118 q118
                                      obtain rfl : ad115 = ad118 := (by injection e118)
                                      replace hx118_0 := (HB.out.cell (World.block_lt_of_cell? w _ hx118_0)).trans hx118_0
                                      have HR118_0 := Aside0.mk hi118_0
                                      have HC118_0 := Aside0.mk hl118_0
                                      clear hi118_0 hl118_0
                                      replace p118 := eq_true p118
                                      replace q118 := eq_true q118
                                      have ea_ := Option.some.inj (hx117_0.symm.trans hx118_0)
                                      injection ea_ with ea_ en_ ec_
                                      subst ea_
                                      subst ec_
                                      clear en_
                                      have p119 : 0 ≤ (x6_3 : Int) := of_decide_eq_true (by first | (with_reducible assumption) | assumption)
                                      have q119 : x6_3 < ((rd_L2 l0_0 x5_2).length : Int) := of_decide_eq_true (by first | (with_reducible assumption) | assumption)
                                      obtain ⟨ad119, e119, hx119_0, hx119_1⟩ := at_T93 HR118_0.out x6_3 p119 q119
                                      cases e119
                                      replace hx119_0 := (HB.out.cell (World.block_lt_of_cell? w _ hx119_0)).trans hx119_0
                                      replace hx119_1 := (HB.out.cell (World.block_lt_of_cell? w _ hx119_1)).trans hx119_1
                                      replace p119 := eq_true p119
                                      replace q119 := eq_true q119
                                      have hcz30_0 : wr.cell? ⟨gb114, 0, none⟩ = some (.slice (some ad116) l1_0.length c1_0) := (blk_cell BK114.out 0).trans rfl
                                      have hcz30_1 : wr.cell? ⟨gb114, 1, none⟩ = some (.slice A1_1 l1_1.length c1_1) := (blk_cell BK114.out 1).trans rfl
                                      have hfz30_0 := blk_frozen BK114.out 0
                                      have hfz30_1 := blk_frozen BK114.out 1
                                      have p120 : 0 ≤ (x5_2 : Int) := of_decide_eq_true (by first | (with_reducible assumption) | assumption)
                                      have q120 : x5_2 < (l1_0.length : Int) := of_decide_eq_true (by first | (with_reducible assumption) | assumption)
                                      obtain ⟨ad120, A120_0, c120_0, e120, hx120_0, hl120_0, hi120_0⟩ := at_L2 HR1_0.out x5_2 p120 q120
                                      obtain rfl : ad116 = ad120 := (by injection e120)
                                      replace hx120_0 := (HB.out.cell (World.block_lt_of_cell? w _ hx120_0)).trans hx120_0
                                      have HR120_0 := Aside0.mk hi120_0
                                      have HC120_0 := Aside0.mk hl120_0
                                      clear hi120_0 hl120_0
                                      replace p120 := eq_true p120
                                      replace q120 := eq_true q120
                                      have p121 : 0 ≤ (x6_3 : Int) := of_decide_eq_true (by first | (with_reducible assumption) | assumption)
                                      have q121 : x6_3 < ((rd_L2 l1_0 x5_2).length : Int) := of_decide_eq_true (by first | (with_reducible assumption) | assumption)
                                      obtain ⟨ad121, e121, hx121_0, hx121_1⟩ := at_T93 HR120_0.out x6_3 p121 q121
                                      cases e121
                                      replace hx121_0 := (HB.out.cell (World.block_lt_of_cell? w _ hx121_0)).trans hx121_0
                                      replace hx121_1 := (HB.out.cell (World.block_lt_of_cell? w _ hx121_1)).trans hx121_1
                                      replace p121 := eq_true p121
                                      replace q121 := eq_true q121
                                      go_wp2
                                      repeat (go_quiet (fail); try go_wp2)
                                      go_ret
                                      exact ⟨by first | rfl | (simp [errW_none, errW_some] <;> rfl) | (simp [*, errW_none, errW_some] <;> rfl), by repeat (first | (with_reducible first | exact HB.out | apply below_alloc | apply pw_below_drewN | apply below_drew1 | refine below_set ?_ GE113.out | refine below_set ?_ GE114.out) | exact HB.out)⟩
                                    · rw [if_neg c27] at H
                                      have c27b0 : (!(((rd_T93 (rd_L2 l0_0 x5_2) x6_3).f0) == ((rd_T93 (rd_L2 l1_0 x5_2) x6_3).f0)) || (!(((rd_T93 (rd_L2 l0_0 x5_2) x6_3).f1) == ((rd_T93 (rd_L2 l1_0 x5_2) x6_3).f1)))) = false := by simpa using c27
                                      clear c27
                                      have H' := Aside0.mk H
                                      clear H
                                      have hnb31 := NB113_114.out
                                      have hnc31 := NB114_113.out
                                      have hcz32_0 : wr.cell? ⟨gb113, 0, none⟩ = some (.slice (some ad115) l0_0.length c0_0) := (blk_cell BK113.out 0).trans rfl
                                      have hcz32_1 : wr.cell? ⟨gb113, 1, none⟩ = some (.slice A0_1 l0_1.length c0_1) := (blk_cell BK113.out 1).trans rfl
                                      have hfz32_0 := blk_frozen BK113.out 0
                                      have hfz32_1 := blk_frozen BK113.out 1
                                      have p117 : 0 ≤ (x5_2 : Int) := of_decide_eq_true (by first | (with_reducible assumption) | assumption)
                                      have q117 : x5_2 < (l0_0.length : Int) := of_decide_eq_true (by first | (with_reducible assumption) | assumption)
                                      obtain ⟨ad117, A117_0, c117_0, e117, hx117_0, hl117_0, hi117_0⟩ := at_L2 HR0_0.out x5_2 p117 q117
                                      obtain rfl : ad115 = ad117 := (by injection e117)
                                      replace hx117_0 := (HB.out.cell (World.block_lt_of_cell? w _ hx117_0)).trans hx117_0
                                      have HR117_0 := Aside0.mk hi117_0
                                      have HC117_0 := Aside0.mk hl117_0
                                      clear hi117_0 hl117_0
                                      replace p117 := eq_true p117
                                      replace q117 := eq_true q117
                                      have p118 : 0 ≤ (x5_2 : Int) := of_decide_eq_true (by first | (with_reducible assumption) | assumption)
                                      have q118 : x5_2 < (l0_0.length : Int) := of_decide_eq_true (by first | (with_reducible assumption) | assumption)
                                      obtain ⟨ad118, A118_0, c118_0, e118, hx118_0, hl118_0, hi118_0⟩ := at_L2 HR0_0.out x5_2 p118 q118
                                      obtain rfl : ad115 = ad118 := (by injection e118)
                                      replace hx118_0 := (HB.out.cell (World.block_lt_of_cell? w _ hx118_0)).trans hx118_0
                                      have HR118_0 := Aside0.mk hi118_0
                                      have HC118_0 := Aside0.mk hl118_0
                                      clear hi118_0 hl118_0
                                      replace p118 := eq_true p118
                                      replace q118 := eq_true q118
                                      have ea_ := Option.some.inj (hx117_0.symm.trans hx118_0)
                                      injection ea_ with ea_ en_ ec_
                                      subst ea_
                                      subst ec_
                                      clear en_
                                      have p119 : 0 ≤ (x6_3 : Int) := of_decide_eq_true (by first | (with_reducible assumption) | assumption)
                                      have q119 : x6_3 < ((rd_L2 l0_0 x5_2).length : Int) := of_decide_eq_true (by first | (with_reducible assumption) | assumption)
                                      obtain ⟨ad119, e119, hx119_0, hx119_1⟩ := at_T93 HR118_0.out x6_3 p119 q119
                                      cases e119
                                      replace hx119_0 := (HB.out.cell (World.block_lt_of_cell? w _ hx119_0)).trans hx119_0
                                      replace hx119_1 := (HB.out.cell (World.block_lt_of_cell? w _ hx119_1)).trans hx119_1
                                      replace p119 := eq_true p119
                                      replace q119 := eq_true q119
                                      have hcz33_0 : wr.cell? ⟨gb114, 0, none⟩ = some (.slice (some ad116) l1_0.length c1_0) := (blk_cell BK114.out 0).trans rfl
                                      have hcz33_1 : wr.cell? ⟨gb114, 1, none⟩ = some (.slice A1_1 l1_1.length c1_1) := (blk_cell BK114.out 1).trans rfl
                                      have hfz33_0 := blk_frozen BK114.out 0
                                      have hfz33_1 := blk_frozen BK114.out 1
                                      have p120 : 0 ≤ (x5_2 : Int) := of_decide_eq_true (by first | (with_reducible assumption) | assumption)
                                      have q120 : x5_2 < (l1_0.length : Int) := of_decide_eq_true (by first | (with_reducible assumption) | assumption)
                                      obtain ⟨ad120, A120_0, c120_0, e120, hx120_0, hl120_0, hi120_0⟩ := at_L2 HR1_0.out x5_2 p120 q120
                                      obtain rfl : ad116 = ad120 := (by injection e120)
                                      replace hx120_0 := (HB.out.cell (World.block_lt_of_cell? w _ hx120_0)).trans hx120_0
                                      have HR120_0 := Aside0.mk hi120_0
                                      have HC120_0 := Aside0.mk hl120_0
                                      clear hi120_0 hl120_0
                                      replace p120 := eq_true p120
                                      replace q120 := eq_true q120
                                      have p121 : 0 ≤ (x6_3 : Int) := of_decide_eq_true (by first | (with_reducible assumption) | assumption)
                                      have q121 : x6_3 < ((rd_L2 l1_0 x5_2).length : Int) := of_decide_eq_true (by first | (with_reducible assumption) | assumption)
                                      obtain ⟨ad121, e121, hx121_0, hx121_1⟩ := at_T93 HR120_0.out x6_3 p121 q121
                                      cases e121
                                      replace hx121_0 := (HB.out.cell (World.block_lt_of_cell? w _ hx121_0)).trans hx121_0
                                      replace hx121_1 := (HB.out.cell (World.block_lt_of_cell? w _ hx121_1)).trans hx121_1
                                      replace p121 := eq_true p121
                                      replace q121 := eq_true q121
                                      go_wp2
                                      repeat (go_quiet (fail); try go_wp2)
                                      go_roundg k3
                                      case measure => have := HJ2.out; have := HK2.out; have := HK3.out; omega
                                      case rel => exact ⟨(wrap64 (x6_3 + 1)), (by first | rfl | (simp; done) | (simp [*]; done)), H', ⟨by have := HJ2.out; have := HK2.out; have := HK3.out; omega⟩, ⟨by (with_reducible repeat (first | refine blk_drewN ?_ _ | refine blk_drew ?_ | refine blk_alloc ?_ _)); exact BK113.out⟩, ⟨by (with_reducible repeat (first | refine blk_drewN ?_ _ | refine blk_drew ?_ | refine blk_alloc ?_ _)); exact BK114.out⟩, ⟨by repeat (first | (with_reducible first | exact HB.out | apply below_alloc | apply pw_below_drewN | apply below_drew1 | refine below_set ?_ GE113.out | refine below_set ?_ GE114.out) | exact HB.out)⟩⟩
                                  · rw [if_neg c26] at H
                                    exact absurd H (by simp)
                                · rw [if_neg c25] at H
                                  exact absurd H (by simp)
                              · rw [if_neg c24] at H
                                exact absurd H (by simp)
                            · rw [if_neg c23] at H
                              have c23b0 : decide (x6_3 < ((rd_L2 l0_0 x5_2).length : Int)) = false := decide_eq_false c23
                              clear c23
                              have H' := Aside0.mk H
                              clear H
                              have hnb34 := NB113_114.out
                              have hnc34 := NB114_113.out
                              have hcz35_0 : wr.cell? ⟨gb113, 0, none⟩ = some (.slice (some ad115) l0_0.length c0_0) := (blk_cell BK113.out 0).trans rfl
                              have hcz35_1 : wr.cell? ⟨gb113, 1, none⟩ = some (.slice A0_1 l0_1.length c0_1) := (blk_cell BK113.out 1).trans rfl
                              have hfz35_0 := blk_frozen BK113.out 0
                              have hfz35_1 := blk_frozen BK113.out 1
                              have p117 : 0 ≤ (x5_2 : Int) := of_decide_eq_true (by first | (with_reducible assumption) | assumption)
                              have q117 : x5_2 < (l0_0.length : Int) := of_decide_eq_true (by first | (with_reducible assumption) | assumption)
                              obtain ⟨ad117, A117_0, c117_0, e117, hx117_0, hl117_0, hi117_0⟩ := at_L2 HR0_0.out x5_2 p117 q117
                              obtain rfl : ad115 = ad117 := (by injection e117)
                              replace hx117_0 := (HB.out.cell (World.block_lt_of_cell? w _ hx117_0)).trans hx117_0
                              have HR117_0 := Aside0.mk hi117_0
                              have HC117_0 := Aside0.mk hl117_0
                              clear hi117_0 hl117_0
                              replace p117 := eq_true p117
                              replace q117 := eq_true q117
                              go_wp2
                              repeat (go_quiet (fail); try go_wp2)
                              go_roundg k3
                              case measure => have := HJ2.out; have := HK2.out; have := HK3.out; omega
                              case rel => exact ⟨(wrap64 (x5_2 + 1)), (by first | rfl | (simp; done) | (simp [*]; done)), H', ⟨by have := HJ2.out; have := HK2.out; have := HK3.out; omega⟩, ⟨by (with_reducible repeat (first | refine blk_drewN ?_ _ | refine blk_drew ?_ | refine blk_alloc ?_ _)); exact BK113.out⟩, ⟨by (with_reducible repeat (first | refine blk_drewN ?_ _ | refine blk_drew ?_ | refine blk_alloc ?_ _)); exact BK114.out⟩, ⟨by repeat (first | (with_reducible first | exact HB.out | apply below_alloc | apply pw_below_drewN | apply below_drew1 | refine below_set ?_ GE113.out | refine below_set ?_ GE114.out) | exact HB.out)⟩⟩
                          · rw [if_neg c22] at H
                            exact absurd H (by simp)
                        · rw [if_neg c21] at H
                          exact absurd H (by simp)
                  · rw [if_neg c17] at H
                    have c17b0 : (((rd_L2 l0_0 x5_2).length : Int) == ((rd_L2 l1_0 x5_2).length : Int)) = false := beq_eq_false_iff_ne.mpr c17
                    have c17b1 : (((rd_L2 l0_0 x5_2).length : Int) != ((rd_L2 l1_0 x5_2).length : Int)) = true := bne_iff_ne.mpr c17
                    have c17b2 : ((rd_L2 l0_0 x5_2).length == (rd_L2 l1_0 x5_2).length) = false := by first | simpa using c17 | (simp at c17 ⊢; omega)
                    obtain rfl := Option.some.inj H
                    have hnb36 := NB113_114.out
                    have hnc36 := NB114_113.out
                    have hcz37_0 : wr.cell? ⟨gb113, 0, none⟩ = some (.slice A0_0 l0_0.length c0_0) := (blk_cell BK113.out 0).trans rfl
                    have hcz37_1 : wr.cell? ⟨gb113, 1, none⟩ = some (.slice A0_1 l0_1.length c0_1) := (blk_cell BK113.out 1).trans rfl
                    have hfz37_0 := blk_frozen BK113.out 0
                    have hfz37_1 := blk_frozen BK113.out 1
                    have p115 : 0 ≤ (x5_2 : Int) := of_decide_eq_true (by first | (with_reducible assumption) | assumption)
                    have q115 : x5_2 < (l0_0.length : Int) := of_decide_eq_true (by first | (with_reducible assumption) | assumption)
                    obtain ⟨ad115, A115_0, c115_0, e115, hx115_0, hl115_0, hi115_0⟩ := at_L2 HR0_0.out x5_2 p115 q115
                    cases e115
                    replace hx115_0 := (HB.out.cell (World.block_lt_of_cell? w _ hx115_0)).trans hx115_0
                    have HR115_0 := Aside0.mk hi115_0
                    have HC115_0 := Aside0.mk hl115_0
                    clear hi115_0 hl115_0
                    replace p115 := eq_true p115
                    replace q115 := eq_true q115
                    have hcz38_0 : wr.cell? ⟨gb114, 0, none⟩ = some (.slice A1_0 l1_0.length c1_0) := (blk_cell BK114.out 0).trans rfl
                    have hcz38_1 : wr.cell? ⟨gb114, 1, none⟩ = some (.slice A1_1 l1_1.length c1_1) := (blk_cell BK114.out 1).trans rfl
                    have hfz38_0 := blk_frozen BK114.out 0
                    have hfz38_1 := blk_frozen BK114.out 1
                    have p116 : 0 ≤ (x5_2 : Int) := of_decide_eq_true (by first | (with_reducible assumption) | assumption)
                    have q116 : x5_2 < (l1_0.length : Int) := of_decide_eq_true (by first | (with_reducible assumption) | assumption)
                    obtain ⟨ad116, A116_0, c116_0, e116, hx116_0, hl116_0, hi116_0⟩ := at_L2 HR1_0.out x5_2 p116 q116
                    cases e116
                    replace hx116_0 := (HB.out.cell (World.block_lt_of_cell? w _ hx116_0)).trans hx116_0
                    have HR116_0 := Aside0.mk hi116_0
                    have HC116_0 := Aside0.mk hl116_0
                    clear hi116_0 hl116_0
                    replace p116 := eq_true p116
                    replace q116 := eq_true q116
                    go_wp2
                    repeat (go_quiet (fail); try go_wp2)
                    go_ret
                    exact ⟨by first | rfl | (simp [errW_none, errW_some] <;> rfl) | (simp [*, errW_none, errW_some] <;> rfl), by repeat (first | (with_reducible first | exact HB.out | apply below_alloc | apply pw_below_drewN | apply below_drew1 | refine below_set ?_ GE113.out | refine below_set ?_ GE114.out) | exact HB.out)⟩
                · rw [if_neg c16] at H
                  exact absurd H (by simp)
              · rw [if_neg c15] at H
                exact absurd H (by simp)
            · rw [if_neg c14] at H
              have c14b0 : decide (x5_2 < (l0_0.length : Int)) = false := decide_eq_false c14
              clear c14
              have H' := Aside0.mk H
              clear H
              have hnb39 := NB113_114.out
              have hnc39 := NB114_113.out
              have hcz40_0 : wr.cell? ⟨gb113, 0, none⟩ = some (.slice A0_0 l0_0.length c0_0) := (blk_cell BK113.out 0).trans rfl
              have hcz40_1 : wr.cell? ⟨gb113, 1, none⟩ = some (.slice A0_1 l0_1.length c0_1) := (blk_cell BK113.out 1).trans rfl
              have hfz40_0 := blk_frozen BK113.out 0
              have hfz40_1 := blk_frozen BK113.out 1
              go_wp2
              repeat (go_quiet (fail); try go_wp2)
              go_loopg [7] k2 (fun kq v7 w' => ∃ (x7_3 : Int), v7 = .int .i64 x7_3 ∧ Aside0 (trellislaw13_same.l2 kq x7_3 l0_0 l0_1 l1_0 l1_1 = some r) ∧ Aside0 (kq ≤ k2) ∧ Aside0 (w'.heap[gb113]? = some (.cells #[(.slice A0_0 l0_0.length c0_0), (.slice A0_1 l0_1.length c0_1)] 25 (0, 0))) ∧ Aside0 (w'.heap[gb114]? = some (.cells #[(.slice A1_0 l1_0.length c1_0), (.slice A1_1 l1_1.length c1_1)] 25 (0, 0))) ∧ Aside0 (Below w.heap.size w w'))
              case atStart => exact ⟨(0), (by first | rfl | (simp; done) | (simp [*]; done)), H', ⟨Nat.le_refl _⟩, ⟨by (with_reducible repeat (first | refine blk_drewN ?_ _ | refine blk_drew ?_ | refine blk_alloc ?_ _)); exact BK113.out⟩, ⟨by (with_reducible repeat (first | refine blk_drewN ?_ _ | refine blk_drew ?_ | refine blk_alloc ?_ _)); exact BK114.out⟩, ⟨by repeat (first | (with_reducible first | exact HB.out | apply below_alloc | apply pw_below_drewN | apply below_drew1 | refine below_set ?_ GE113.out | refine below_set ?_ GE114.out) | exact HB.out)⟩⟩
              case round =>
                clear H'
                try clear c1
                try clear p1
                try clear q1
                try clear hx1
                try clear c2
                try clear p2
                try clear c3
                try clear c6
                try clear c6b0
                try clear c6b1
                try clear c6b2
                try clear p6
                try clear c7
                try clear c10
                try clear c11
                try clear p11
                try clear q11
                try clear hx11
                try clear c12
                try clear p12
                try clear q12
                try clear hx12
                try clear c13
                try clear c14
                try clear c14b0
                try clear c15
                try clear c15b0
                try clear c16
                try clear c16b0
                try clear c17
                try clear c17b0
                try clear c17b1
                try clear c17b2
                try clear c18
                try clear c21
                try clear c21b0
                try clear c22
                try clear c22b0
                try clear c23
                try clear c23b0
                try clear c24
                try clear c24b0
                try clear c25
                try clear c25b0
                try clear c26
                try clear c26b0
                try clear c27
                try clear c27b0
                try clear c28
                try clear c31
                try clear c34
                try clear c36
                try clear c39
                try clear hcz11_0
                try clear hcz11_1
                try clear hcz12_0
                try clear hcz12_1
                try clear hcz19_0
                try clear hcz19_1
                try clear hcz20_0
                try clear hcz20_1
                try clear hcz29_0
                try clear hcz29_1
                try clear hcz30_0
                try clear hcz30_1
                try clear hcz32_0
                try clear hcz32_1
                try clear hcz33_0
                try clear hcz33_1
                try clear hcz35_0
                try clear hcz35_1
                try clear hcz37_0
                try clear hcz37_1
                try clear hcz38_0
                try clear hcz38_1
                try clear hcz40_0
                try clear hcz40_1
                try clear hcz8_0
                try clear hcz8_1
                try clear hcz9_0
                try clear hcz9_1
                try clear hfz11_0
                try clear hfz11_1
                try clear hfz12_0
                try clear hfz12_1
                try clear hfz19_0
                try clear hfz19_1
                try clear hfz20_0
                try clear hfz20_1
                try clear hfz29_0
                try clear hfz29_1
                try clear hfz30_0
                try clear hfz30_1
                try clear hfz32_0
                try clear hfz32_1
                try clear hfz33_0
                try clear hfz33_1
                try clear hfz35_0
                try clear hfz35_1
                try clear hfz37_0
                try clear hfz37_1
                try clear hfz38_0
                try clear hfz38_1
                try clear hfz40_0
                try clear hfz40_1
                try clear hfz8_0
                try clear hfz8_1
                try clear hfz9_0
                try clear hfz9_1
                try clear hx115_0
                try clear hx116_0
                try clear hx117_0
                try clear hx118_0
                try clear hx119_0
                try clear hx119_1
                try clear hx120_0
                try clear hx121_0
                try clear hx121_1
                try clear p1
                try clear p11
                try clear p115
                try clear p116
                try clear p117
                try clear p118
                try clear p119
                try clear p120
                try clear p121
                try clear p2
                try clear q1
                try clear q11
                try clear q115
                try clear q116
                try clear q117
                try clear q118
                try clear q119
                try clear q120
                try clear q121
                obtain ⟨x7_3, rfl, HA, HK3, BK113, BK114, HB⟩ := hrel
                cases gk with
                | zero => exact absurd HA.out (by simp [trellislaw13_same.l2])
                | succ k3 =>
                  have H := HA.out
                  clear HA
                  simp only [trellislaw13_same.l2] at H
                  by_cases c41 : x7_3 < (l0_1.length : Int)
                  · rw [if_pos c41] at H
                    have c41b0 : decide (x7_3 < (l0_1.length : Int)) = true := decide_eq_true c41
                    clear c41
                    by_cases c42 : 0 ≤ x7_3
                    · rw [if_pos c42] at H
                      have c42b0 : decide (0 ≤ x7_3) = true := decide_eq_true c42
                      clear c42
                      by_cases c43 : x7_3 < (l1_1.length : Int)
                      · rw [if_pos c43] at H
                        have c43b0 : decide (x7_3 < (l1_1.length : Int)) = true := decide_eq_true c43
                        clear c43
                        by_cases c44 : ((rd_L3 l0_1 x7_3).length : Int) = ((rd_L3 l1_1 x7_3).length : Int)
                        · rw [if_pos c44] at H
                          have c44b0 : (((rd_L3 l0_1 x7_3).length : Int) == ((rd_L3 l1_1 x7_3).length : Int)) = true := beq_iff_eq.mpr c44
                          have c44b1 : (((rd_L3 l0_1 x7_3).length : Int) != ((rd_L3 l1_1 x7_3).length : Int)) = false := bne_eq_false_iff_eq.mpr c44
                          have c44b2 : ((rd_L3 l0_1 x7_3).length == (rd_L3 l1_1 x7_3).length) = true := by first | simpa using c44 | (simp at c44 ⊢; omega)
                          clear c44
                          have H' := Aside0.mk H
                          clear H
                          have hnb45 := NB113_114.out
                          have hnc45 := NB114_113.out
                          have hcz46_0 : wr.cell? ⟨gb113, 0, none⟩ = some (.slice A0_0 l0_0.length c0_0) := (blk_cell BK113.out 0).trans rfl
                          have hcz46_1 : wr.cell? ⟨gb113, 1, none⟩ = some (.slice A0_1 l0_1.length c0_1) := (blk_cell BK113.out 1).trans rfl
                          have hfz46_0 := blk_frozen BK113.out 0
                          have hfz46_1 := blk_frozen BK113.out 1
                          have p122 : 0 ≤ (x7_3 : Int) := of_decide_eq_true (by first | (with_reducible assumption) | assumption)
                          have q122 : x7_3 < (l0_1.length : Int) := of_decide_eq_true (by first | (with_reducible assumption) | assumption)
                          obtain ⟨ad122, A122_0, c122_0, e122, hx122_0, hl122_0, hi122_0⟩ := at_L3 HR0_1.out x7_3 p122 q122
                          cases e122
                          replace hx122_0 := (HB.out.cell (World.block_lt_of_cell? w _ hx122_0)).trans hx122_0
                          have HR122_0 := Aside0.mk hi122_0
                          have HC122_0 := Aside0.mk hl122_0
                          clear hi122_0 hl122_0
                          replace p122 := eq_true p122
                          replace q122 := eq_true q122
                          have hcz47_0 : wr.cell? ⟨gb114, 0, none⟩ = some (.slice A1_0 l1_0.length c1_0) := (blk_cell BK114.out 0).trans rfl
                          have hcz47_1 : wr.cell? ⟨gb114, 1, none⟩ = some (.slice A1_1 l1_1.length c1_1) := (blk_cell BK114.out 1).trans rfl
                          have hfz47_0 := blk_frozen BK114.out 0
                          have hfz47_1 := blk_frozen BK114.out 1
                          have p123 : 0 ≤ (x7_3 : Int) := of_decide_eq_true (by first | (with_reducible assumption) | assumption)
                          have q123 : x7_3 < (l1_1.length : Int) := of_decide_eq_true (by first | (with_reducible assumption) | assumption)
                          obtain ⟨ad123, A123_0, c123_0, e123, hx123_0, hl123_0, hi123_0⟩ := at_L3 HR1_1.out x7_3 p123 q123
                          cases e123
                          replace hx123_0 := (HB.out.cell (World.block_lt_of_cell? w _ hx123_0)).trans hx123_0
                          have HR123_0 := Aside0.mk hi123_0
                          have HC123_0 := Aside0.mk hl123_0
                          clear hi123_0 hl123_0
                          replace p123 := eq_true p123
                          replace q123 := eq_true q123
                          go_wp2
                          repeat (go_quiet (fail); try go_wp2)
                          go_loopg [8] k3 (fun kq v8 w' => ∃ (x8_4 : Int), v8 = .int .i64 x8_4 ∧ Aside0 (trellislaw13_same.l3 kq x7_3 x8_4 l0_0 l0_1 l1_0 l1_1 = some r) ∧ Aside0 (kq ≤ k3) ∧ Aside0 (w'.heap[gb113]? = some (.cells #[(.slice A0_0 l0_0.length c0_0), (.slice (some ad122) l0_1.length c0_1)] 25 (0, 0))) ∧ Aside0 (w'.heap[gb114]? = some (.cells #[(.slice A1_0 l1_0.length c1_0), (.slice (some ad123) l1_1.length c1_1)] 25 (0, 0))) ∧ Aside0 (Below w.heap.size w w'))
                          case atStart => exact ⟨(0), (by first | rfl | (simp; done) | (simp [*]; done)), H', ⟨Nat.le_refl _⟩, ⟨by (with_reducible repeat (first | refine blk_drewN ?_ _ | refine blk_drew ?_ | refine blk_alloc ?_ _)); exact BK113.out⟩, ⟨by (with_reducible repeat (first | refine blk_drewN ?_ _ | refine blk_drew ?_ | refine blk_alloc ?_ _)); exact BK114.out⟩, ⟨by repeat (first | (with_reducible first | exact HB.out | apply below_alloc | apply pw_below_drewN | apply below_drew1 | refine below_set ?_ GE113.out | refine below_set ?_ GE114.out) | exact HB.out)⟩⟩
                          case round =>
                            clear H'
                            try clear c1
                            try clear p1
                            try clear q1
                            try clear hx1
                            try clear c2
                            try clear p2
                            try clear c3
                            try clear c4
                            try clear c6
                            try clear c6b0
                            try clear c6b1
                            try clear c6b2
                            try clear p6
                            try clear c7
                            try clear c10
                            try clear c11
                            try clear p11
                            try clear q11
                            try clear hx11
                            try clear c12
                            try clear p12
                            try clear q12
                            try clear hx12
                            try clear c13
                            try clear c14
                            try clear c14b0
                            try clear c15
                            try clear c15b0
                            try clear c16
                            try clear c16b0
                            try clear c17
                            try clear c17b0
                            try clear c17b1
                            try clear c17b2
                            try clear c18
                            try clear c21
                            try clear c21b0
                            try clear c22
                            try clear c22b0
                            try clear c23
                            try clear c23b0
                            try clear c24
                            try clear c24b0
                            try clear c25
                            try clear c25b0
                            try clear c26
                            try clear c26b0
                            try clear c27
                            try clear c27b0
                            try clear c28
                            try clear c31
                            try clear c34
                            try clear c36
                            try clear c39
                            try clear c41
                            try clear c41b0
                            try clear c42
                            try clear c42b0
                            try clear c43
                            try clear c43b0
                            try clear c44
                            try clear c44b0
                            try clear c44b1
                            try clear c44b2
                            try clear c45
                            try clear hcz11_0
                            try clear hcz11_1
                            try clear hcz12_0
                            try clear hcz12_1
                            try clear hcz19_0
                            try clear hcz19_1
                            try clear hcz20_0
                            try clear hcz20_1
                            try clear hcz29_0
                            try clear hcz29_1
                            try clear hcz30_0
                            try clear hcz30_1
                            try clear hcz32_0
                            try clear hcz32_1
                            try clear hcz33_0
                            try clear hcz33_1
                            try clear hcz35_0
                            try clear hcz35_1
                            try clear hcz37_0
                            try clear hcz37_1
                            try clear hcz38_0
                            try clear hcz38_1
                            try clear hcz40_0
                            try clear hcz40_1
                            try clear hcz46_0
                            try clear hcz46_1
                            try clear hcz47_0
                            try clear hcz47_1
                            try clear hcz8_0
                            try clear hcz8_1
                            try clear hcz9_0
                            try clear hcz9_1
                            try clear hfz11_0
                            try clear hfz11_1
                            try clear hfz12_0
                            try clear hfz12_1
                            try clear hfz19_0
                            try clear hfz19_1
                            try clear hfz20_0
                            try clear hfz20_1
                            try clear hfz29_0
                            try clear hfz29_1
                            try clear hfz30_0
                            try clear hfz30_1
                            try clear hfz32_0
                            try clear hfz32_1
                            try clear hfz33_0
                            try clear hfz33_1
                            try clear hfz35_0
                            try clear hfz35_1
                            try clear hfz37_0
                            try clear hfz37_1
                            try clear hfz38_0
                            try clear hfz38_1
                            try clear hfz40_0
                            try clear hfz40_1
                            try clear hfz46_0
                            try clear hfz46_1
                            try clear hfz47_0
                            try clear hfz47_1
                            try clear hfz8_0
                            try clear hfz8_1
                            try clear hfz9_0
                            try clear hfz9_1
                            try clear hx115_0
                            try clear hx116_0
                            try clear hx117_0
                            try clear hx118_0
                            try clear hx119_0
                            try clear hx119_1
                            try clear hx120_0
                            try clear hx121_0
                            try clear hx121_1
                            try clear hx122_0
                            try clear hx123_0
                            try clear p1
                            try clear p11
                            try clear p115
                            try clear p116
                            try clear p117
                            try clear p118
                            try clear p119
                            try clear p12
                            try clear p120
                            try clear p121
                            try clear p122
                            try clear p123
                            try clear p2
                            try clear p6
                            try clear q1
                            try clear q11
                            try clear q115
                            try clear q116
                            try clear q117
                            try clear q118
                            try clear q119
                            try clear q12
                            try clear q120
                            try clear q121
                            try clear q122
                            try clear q123
                            obtain ⟨x8_4, rfl, HA, HK4, BK113, BK114, HB⟩ := hrel
                            cases gk with
                            | zero => exact absurd HA.out (by simp [trellislaw13_same.l3])
                            | succ k4 =>
                              have H := HA.out
                              clear HA
                              simp only [trellislaw13_same.l3] at H
                              by_cases c48 : 0 ≤ x7_3
                              · rw [if_pos c48] at H
                                have c48b0 : decide (0 ≤ x7_3) = true := decide_eq_true c48
                                clear c48
                                by_cases c49 : x7_3 < (l0_1.length : Int)
                                · rw [if_pos c49] at H
                                  have c49b0 : decide (x7_3 < (l0_1.length : Int)) = true := decide_eq_true c49
                                  clear c49
                                  by_cases c50 : x8_4 < ((rd_L3 l0_1 x7_3).length : Int)
                                  · rw [if_pos c50] at H
                                    have c50b0 : decide (x8_4 < ((rd_L3 l0_1 x7_3).length : Int)) = true := decide_eq_true c50
                                    clear c50
                                    by_cases c51 : 0 ≤ x8_4
                                    · rw [if_pos c51] at H
                                      have c51b0 : decide (0 ≤ x8_4) = true := decide_eq_true c51
                                      clear c51
                                      by_cases c52 : x7_3 < (l1_1.length : Int)
                                      · rw [if_pos c52] at H
                                        have c52b0 : decide (x7_3 < (l1_1.length : Int)) = true := decide_eq_true c52
                                        clear c52
                                        by_cases c53 : x8_4 < ((rd_L3 l1_1 x7_3).length : Int)
                                        · rw [if_pos c53] at H
                                          have c53b0 : decide (x8_4 < ((rd_L3 l1_1 x7_3).length : Int)) = true := decide_eq_true c53
                                          clear c53
                                          by_cases c54 : (rd (rd_L3 l0_1 x7_3) x8_4) = (rd (rd_L3 l1_1 x7_3) x8_4)
                                          · rw [if_pos c54] at H
                                            have c54b0 : ((rd (rd_L3 l0_1 x7_3) x8_4) == (rd (rd_L3 l1_1 x7_3) x8_4)) = true := beq_iff_eq.mpr c54
                                            have c54b1 : ((rd (rd_L3 l0_1 x7_3) x8_4) != (rd (rd_L3 l1_1 x7_3) x8_4)) = false := bne_eq_false_iff_eq.mpr c54
                                            clear c54
                                            have H' := Aside0.mk H
                                            clear H
                                            have hnb55 := NB113_114.out
                                            have hnc55 := NB114_113.out
                                            have hcz56_0 : wr.cell? ⟨gb113, 0, none⟩ = some (.slice A0_0 l0_0.length c0_0) := (blk_cell BK113.out 0).trans rfl
                                            have hcz56_1 : wr.cell? ⟨gb113, 1, none⟩ = some (.slice (some ad122) l0_1.length c0_1) := (blk_cell BK113.out 1).trans rfl
                                            have hfz56_0 := blk_frozen BK113.out 0
                                            have hfz56_1 := blk_frozen BK113.out 1
                                            have p124 : 0 ≤ (x7_3 : Int) := of_decide_eq_true (by first | (with_reducible assumption) | assumption)
                                            have q124 : x7_3 < (l0_1.length : Int) := of_decide_eq_true (by first | (with_reducible assumption) | assumption)
                                            obtain ⟨ad124, A124_0, c124_0, e124, hx124_0, hl124_0, hi124_0⟩ := at_L3 HR0_1.out x7_3 p124 q124
                                            obtain rfl : ad122 = ad124 := (by injection e124)
                                            replace hx124_0 := (HB.out.cell (World.block_lt_of_cell? w _ hx124_0)).trans hx124_0
                                            have HR124_0 := Aside0.mk hi124_0
                                            have HC124_0 := Aside0.mk hl124_0
                                            clear hi124_0 hl124_0
                                            replace p124 := eq_true p124
                                            replace q124 := eq_true q124
                                            have p125 : 0 ≤ (x7_3 : Int) := of_decide_eq_true (by first | (with_reducible assumption) | assumption)
                                            have q125 : x7_3 < (l0_1.length : Int) := of_decide_eq_true (by first | (with_reducible assumption) | assumption)
                                            obtain ⟨ad125, A125_0, c125_0, e125, hx125_0, hl125_0, hi125_0⟩ := at_L3 HR0_1.out x7_3 p125 q125
                                            obtain rfl : ad122 = ad125 := (by injection e125)
                                            replace hx125_0 := (HB.out.cell (World.block_lt_of_cell? w _ hx125_0)).trans hx125_0
                                            have HR125_0 := Aside0.mk hi125_0
                                            have HC125_0 := Aside0.mk hl125_0
                                            clear hi125_0 hl125_0
                                            replace p125 := eq_true p125
                                            replace q125 := eq_true q125
                                            have ea_ := Option.some.inj (hx124_0.symm.trans hx125_0)
                                            injection ea_ with ea_ en_ ec_
                                            subst ea_
                                            subst ec_
                                            clear en_
                                            have p126 : 0 ≤ (x8_4 : Int) := of_decide_eq_true (by first | (with_reducible assumption) | assumption)
                                            have q126 : x8_4 < ((rd_L3 l0_1 x7_3).length : Int) := of_decide_eq_true (by first | (with_reducible assumption) | assumption)
                                            obtain ⟨ad126, e126, hx126_0⟩ := Kd.at_int HR125_0.out x8_4 p126 q126
                                            cases e126
                                            replace hx126_0 := (HB.out.cell (World.block_lt_of_cell? w _ hx126_0)).trans hx126_0
                                            replace p126 := eq_true p126
                                            replace q126 := eq_true q126
                                            have hcz57_0 : wr.cell? ⟨gb114, 0, none⟩ = some (.slice A1_0 l1_0.length c1_0) := (blk_cell BK114.out 0).trans rfl
                                            have hcz57_1 : wr.cell? ⟨gb114, 1, none⟩ = some (.slice (some ad123) l1_1.length c1_1) := (blk_cell BK114.out 1).trans rfl
                                            have hfz57_0 := blk_frozen BK114.out 0
                                            have hfz57_1 := blk_frozen BK114.out 1
                                            have p127 : 0 ≤ (x7_3 : Int) := of_decide_eq_true (by first | (with_reducible assumption) | assumption)
                                            have q127 : x7_3 < (l1_1.length : Int) := of_decide_eq_true (by first | (with_reducible assumption) | assumption)
                                            obtain ⟨ad127, A127_0, c127_0, e127, hx127_0, hl127_0, hi127_0⟩ := at_L3 HR1_1.out x7_3 p127 q127
                                            obtain rfl : ad123 = ad127 := (by injection e127)
                                            replace hx127_0 := (HB.out.cell (World.block_lt_of_cell? w _ hx127_0)).trans hx127_0
                                            have HR127_0 := Aside0.mk hi127_0
                                            have HC127_0 := Aside0.mk hl127_0
                                            clear hi127_0 hl127_0
                                            replace p127 := eq_true p127
                                            replace q127 := eq_true q127
                                            have p128 : 0 ≤ (x8_4 : Int) := of_decide_eq_true (by first | (with_reducible assumption) | assumption)
                                            have q128 : x8_4 < ((rd_L3 l1_1 x7_3).length : Int) := of_decide_eq_true (by first | (with_reducible assumption) | assumption)
                                            obtain ⟨ad128, e128, hx128_0⟩ := Kd.at_int HR127_0.out x8_4 p128 q128
                                            cases e128
                                            replace hx128_0 := (HB.out.cell (World.block_lt_of_cell? w _ hx128_0)).trans hx128_0
                                            replace p128 := eq_true p128
                                            replace q128 := eq_true q128
                                            go_wp2
                                            repeat (go_quiet (fail); try go_wp2)
                                            go_roundg k4
                                            case measure => have := HJ2.out; have := HK2.out; have := HK3.out; have := HK4.out; omega
                                            case rel => exact ⟨(wrap64 (x8_4 + 1)), (by first | rfl | (simp; done) | (simp [*]; done)), H', ⟨by have := HJ2.out; have := HK2.out; have := HK3.out; have := HK4.out; omega⟩, ⟨by (with_reducible repeat (first | refine blk_drewN ?_ _ | refine blk_drew ?_ | refine blk_alloc ?_ _)); exact BK113.out⟩, ⟨by (with_reducible repeat (first | refine blk_drewN ?_ _ | refine blk_drew ?_ | refine blk_alloc ?_ _)); exact BK114.out⟩, ⟨by repeat (first | (with_reducible first | exact HB.out | apply below_alloc | apply pw_below_drewN | apply below_drew1 | refine below_set ?_ GE113.out | refine below_set ?_ GE114.out) | exact HB.out)⟩⟩
                                          · rw [if_neg c54] at H
                                            have c54b0 : ((rd (rd_L3 l0_1 x7_3) x8_4) == (rd (rd_L3 l1_1 x7_3) x8_4)) = false := beq_eq_false_iff_ne.mpr c54
                                            have c54b1 : ((rd (rd_L3 l0_1 x7_3) x8_4) != (rd (rd_L3 l1_1 x7_3) x8_4)) = true := bne_iff_ne.mpr c54
                                            obtain rfl := Option.some.inj H
                                            have hnb58 := NB113_114.out
                                            have hnc58 := NB114_113.out
                                            have hcz59_0 : wr.cell? ⟨gb113, 0, none⟩ = some (.slice A0_0 l0_0.length c0_0) := (blk_cell BK113.out 0).trans rfl
                                            have hcz59_1 : wr.cell? ⟨gb113, 1, none⟩ = some (.slice (some ad122) l0_1.length c0_1) := (blk_cell BK113.out 1).trans rfl
                                            have hfz59_0 := blk_frozen BK113.out 0
                                            have hfz59_1 := blk_frozen BK113.out 1
                                            have p124 : 0 ≤ (x7_3 : Int) := of_decide_eq_true (by first | (with_reducible assumption) | assumption)
                                            have q124 : x7_3 < (l0_1.length : Int) := of_decide_eq_true (by first | (with_reducible assumption) | assumption)
                                            obtain ⟨ad124, A124_0, c124_0, e124, hx124_0, hl124_0, hi124_0⟩ := at_L3 HR0_1.out x7_3 p124 q124
                                            obtain rfl : ad122 = ad124 := (by injection e124)
                                            replace hx124_0 := (HB.out.cell (World.block_lt_of_cell? w _ hx124_0)).trans hx124_0
                                            have HR124_0 := Aside0.mk hi124_0
                                            have HC124_0 := Aside0.mk hl124_0
                                            clear hi124_0 hl124_0
                                            replace p124 := eq_true p124
                                            replace q124 := eq_true q124
                                            have p125 : 0 ≤ (x7_3 : Int) := of_decide_eq_true (by first | (with_reducible assumption) | assumption)
                                            have q125 : x7_3 < (l0_1.length : Int) := of_decide_eq_true (by first | (with_reducible assumption) | assumption)
                                            obtain ⟨ad125, A125_0, c125_0, e125, hx125_0, hl125_0, hi125_0⟩ := at_L3 HR0_1.out x7_3 p125 q125
                                            obtain rfl : ad122 = ad125 := (by injection e125)
                                            replace hx125_0 := (HB.out.cell (World.block_lt_of_cell? w _ hx125_0)).trans hx125_0
                                            have HR125_0 := Aside0.mk hi125_0
                                            have HC125_0 := Aside0.mk hl125_0
                                            clear hi125_0 hl125_0
                                            replace p125 := eq_true p125
                                            replace q125 := eq_true q125
                                            have ea_ := Option.some.inj (hx124_0.symm.trans hx125_0)
                                            injection ea_ with ea_ en_ ec_
                                            subst ea_
                                            subst ec_
                                            clear en_
                                            have p126 : 0 ≤ (x8_4 : Int) := of_decide_eq_true (by first | (with_reducible assumption) | assumption)
                                            have q126 : x8_4 < ((rd_L3 l0_1 x7_3).length : Int) := of_decide_eq_true (by first | (with_reducible assumption) | assumption)
                                            obtain ⟨ad126, e126, hx126_0⟩ := Kd.at_int HR125_0.out x8_4 p126 q126
                                            cases e126
                                            replace hx126_0 := (HB.out.cell (World.block_lt_of_cell? w _ hx126_0)).trans hx126_0
                                            replace p126 := eq_true p126
                                            replace q126 := eq_true q126
                                            have hcz60_0 : wr.cell? ⟨gb114, 0, none⟩ = some (.slice A1_0 l1_0.length c1_0) := (blk_cell BK114.out 0).trans rfl
                                            have hcz60_1 : wr.cell? ⟨gb114, 1, none⟩ = some (.slice (some ad123) l1_1.length c1_1) := (blk_cell BK114.out 1).trans rfl
                                            have hfz60_0 := blk_frozen BK114.out 0
                                            have hfz60_1 := blk_frozen BK114.out 1
                                            have p127 : 0 ≤ (x7_3 : Int) := of_decide_eq_true (by first | (with_reducible assumption) | assumption)
                                            have q127 : x7_3 < (l1_1.length : Int) := of_decide_eq_true (by first | (with_reducible assumption) | assumption)
                                            obtain ⟨ad127, A127_0, c127_0, e127, hx127_0, hl127_0, hi127_0⟩ := at_L3 HR1_1.out x7_3 p127 q127
                                            obtain rfl : ad123 = ad127 := (by injection e127)
                                            replace hx127_0 := (HB.out.cell (World.block_lt_of_cell? w _ hx127_0)).trans hx127_0
                                            have HR127_0 := Aside0.mk hi127_0
                                            have HC127_0 := Aside0.mk hl127_0
                                            clear hi127_0 hl127_0
                                            replace p127 := eq_true p127
                                            replace q127 := eq_true q127
                                            have p128 : 0 ≤ (x8_4 : Int) := of_decide_eq_true (by first | (with_reducible assumption) | assumption)
                                            have q128 : x8_4 < ((rd_L3 l1_1 x7_3).length : Int) := of_decide_eq_true (by first | (with_reducible assumption) | assumption)
                                            obtain ⟨ad128, e128, hx128_0⟩ := Kd.at_int HR127_0.out x8_4 p128 q128
                                            cases e128
                                            replace hx128_0 := (HB.out.cell (World.block_lt_of_cell? w _ hx128_0)).trans hx128_0
                                            replace p128 := eq_true p128
                                            replace q128 := eq_true q128
                                            go_wp2
                                            repeat (go_quiet (fail); try go_wp2)
                                            go_ret
                                            exact ⟨by first | rfl | (simp [errW_none, errW_some] <;> rfl) | (simp [*, errW_none, errW_some] <;> rfl), by repeat (first | (with_reducible first | exact HB.out | apply below_alloc | apply pw_below_drewN | apply below_drew1 | refine below_set ?_ GE113.out | refine below_set ?_ GE114.out) | exact HB.out)⟩
                                        · rw [if_neg c53] at H
                                          exact absurd H (by simp)
                                      · rw [if_neg c52] at H
                                        exact absurd H (by simp)
                                    · rw [if_neg c51] at H
                                      exact absurd H (by simp)
                                  · rw [if_neg c50] at H
                                    have c50b0 : decide (x8_4 < ((rd_L3 l0_1 x7_3).length : Int)) = false := decide_eq_false c50
                                    clear c50
                                    have H' := Aside0.mk H
                                    clear H
                                    have hnb61 := NB113_114.out
                                    have hnc61 := NB114_113.out
                                    have hcz62_0 : wr.cell? ⟨gb113, 0, none⟩ = some (.slice A0_0 l0_0.length c0_0) := (blk_cell BK113.out 0).trans rfl
                                    have hcz62_1 : wr.cell? ⟨gb113, 1, none⟩ = some (.slice (some ad122) l0_1.length c0_1) := (blk_cell BK113.out 1).trans rfl
                                    have hfz62_0 := blk_frozen BK113.out 0
                                    have hfz62_1 := blk_frozen BK113.out 1
                                    have p124 : 0 ≤ (x7_3 : Int) := of_decide_eq_true (by first | (with_reducible assumption) | assumption)
                                    have q124 : x7_3 < (l0_1.length : Int) := of_decide_eq_true (by first | (with_reducible assumption) | assumption)
                                    obtain ⟨ad124, A124_0, c124_0, e124, hx124_0, hl124_0, hi124_0⟩ := at_L3 HR0_1.out x7_3 p124 q124
                                    obtain rfl : ad122 = ad124 := (by injection e124)
                                    replace hx124_0 := (HB.out.cell (World.block_lt_of_cell? w _ hx124_0)).trans hx124_0
                                    have HR124_0 := Aside0.mk hi124_0
                                    have HC124_0 := Aside0.mk hl124_0
                                    clear hi124_0 hl124_0
                                    replace p124 := eq_true p124
                                    replace q124 := eq_true q124
                                    go_wp2
                                    repeat (go_quiet (fail); try go_wp2)
                                    go_roundg k4
                                    case measure => have := HJ2.out; have := HK2.out; have := HK3.out; have := HK4.out; omega
                                    case rel => exact ⟨(wrap64 (x7_3 + 1)), (by first | rfl | (simp; done) | (simp [*]; done)), H', ⟨by have := HJ2.out; have := HK2.out; have := HK3.out; have := HK4.out; omega⟩, ⟨by (with_reducible repeat (first | refine blk_drewN ?_ _ | refine blk_drew ?_ | refine blk_alloc ?_ _)); exact BK113.out⟩, ⟨by (with_reducible repeat (first | refine blk_drewN ?_ _ | refine blk_drew ?_ | refine blk_alloc ?_ _)); exact BK114.out⟩, ⟨by repeat (first | (with_reducible first | exact HB.out | apply below_alloc | apply pw_below_drewN | apply below_drew1 | refine below_set ?_ GE113.out | refine below_set ?_ GE114.out) | exact HB.out)⟩⟩
                                · rw [if_neg c49] at H
                                  exact absurd H (by simp)
                              · rw [if_neg c48] at H
                                exact absurd H (by simp)
                        · rw [if_neg c44] at H
                          have c44b0 : (((rd_L3 l0_1 x7_3).length : Int) == ((rd_L3 l1_1 x7_3).length : Int)) = false := beq_eq_false_iff_ne.mpr c44
                          have c44b1 : (((rd_L3 l0_1 x7_3).length : Int) != ((rd_L3 l1_1 x7_3).length : Int)) = true := bne_iff_ne.mpr c44
                          have c44b2 : ((rd_L3 l0_1 x7_3).length == (rd_L3 l1_1 x7_3).length) = false := by first | simpa using c44 | (simp at c44 ⊢; omega)
                          obtain rfl := Option.some.inj H
                          have hnb63 := NB113_114.out
                          have hnc63 := NB114_113.out
                          have hcz64_0 : wr.cell? ⟨gb113, 0, none⟩ = some (.slice A0_0 l0_0.length c0_0) := (blk_cell BK113.out 0).trans rfl
                          have hcz64_1 : wr.cell? ⟨gb113, 1, none⟩ = some (.slice A0_1 l0_1.length c0_1) := (blk_cell BK113.out 1).trans rfl
                          have hfz64_0 := blk_frozen BK113.out 0
                          have hfz64_1 := blk_frozen BK113.out 1
                          have p122 : 0 ≤ (x7_3 : Int) := of_decide_eq_true (by first | (with_reducible assumption) | assumption)
                          have q122 : x7_3 < (l0_1.length : Int) := of_decide_eq_true (by first | (with_reducible assumption) | assumption)
                          obtain ⟨ad122, A122_0, c122_0, e122, hx122_0, hl122_0, hi122_0⟩ := at_L3 HR0_1.out x7_3 p122 q122
                          cases e122
                          replace hx122_0 := (HB.out.cell (World.block_lt_of_cell? w _ hx122_0)).trans hx122_0
                          have HR122_0 := Aside0.mk hi122_0
                          have HC122_0 := Aside0.mk hl122_0
                          clear hi122_0 hl122_0
                          replace p122 := eq_true p122
                          replace q122 := eq_true q122
                          have hcz65_0 : wr.cell? ⟨gb114, 0, none⟩ = some (.slice A1_0 l1_0.length c1_0) := (blk_cell BK114.out 0).trans rfl
                          have hcz65_1 : wr.cell? ⟨gb114, 1, none⟩ = some (.slice A1_1 l1_1.length c1_1) := (blk_cell BK114.out 1).trans rfl
                          have hfz65_0 := blk_frozen BK114.out 0
                          have hfz65_1 := blk_frozen BK114.out 1
                          have p123 : 0 ≤ (x7_3 : Int) := of_decide_eq_true (by first | (with_reducible assumption) | assumption)
                          have q123 : x7_3 < (l1_1.length : Int) := of_decide_eq_true (by first | (with_reducible assumption) | assumption)
                          obtain ⟨ad123, A123_0, c123_0, e123, hx123_0, hl123_0, hi123_0⟩ := at_L3 HR1_1.out x7_3 p123 q123
                          cases e123
                          replace hx123_0 := (HB.out.cell (World.block_lt_of_cell? w _ hx123_0)).trans hx123_0
                          have HR123_0 := Aside0.mk hi123_0
                          have HC123_0 := Aside0.mk hl123_0
                          clear hi123_0 hl123_0
                          replace p123 := eq_true p123
                          replace q123 := eq_true q123
                          go_wp2
                          repeat (go_quiet (fail); try go_wp2)
                          go_ret
                          exact ⟨by first | rfl | (simp [errW_none, errW_some] <;> rfl) | (simp [*, errW_none, errW_some] <;> rfl), by repeat (first | (with_reducible first | exact HB.out | apply below_alloc | apply pw_below_drewN | apply below_drew1 | refine below_set ?_ GE113.out | refine below_set ?_ GE114.out) | exact HB.out)⟩
                      · rw [if_neg c43] at H
                        exact absurd H (by simp)
                    · rw [if_neg c42] at H
                      exact absurd H (by simp)
                  · rw [if_neg c41] at H
                    have c41b0 : decide (x7_3 < (l0_1.length : Int)) = false := decide_eq_false c41
                    clear c41
                    obtain rfl := Option.some.inj H
                    have hnb66 := NB113_114.out
                    have hnc66 := NB114_113.out
                    have hcz67_0 : wr.cell? ⟨gb113, 0, none⟩ = some (.slice A0_0 l0_0.length c0_0) := (blk_cell BK113.out 0).trans rfl
                    have hcz67_1 : wr.cell? ⟨gb113, 1, none⟩ = some (.slice A0_1 l0_1.length c0_1) := (blk_cell BK113.out 1).trans rfl
                    have hfz67_0 := blk_frozen BK113.out 0
                    have hfz67_1 := blk_frozen BK113.out 1
                    go_wp2
                    repeat (go_quiet (fail); try go_wp2)
                    go_ret
                    exact ⟨by first | rfl | (simp [errW_none, errW_some] <;> rfl) | (simp [*, errW_none, errW_some] <;> rfl), by repeat (first | (with_reducible first | exact HB.out | apply below_alloc | apply pw_below_drewN | apply below_drew1 | refine below_set ?_ GE113.out | refine below_set ?_ GE114.out) | exact HB.out)⟩
end Go.Proofs.YtcijanmckhlpiaaDoor.PTableBack
namespace Go.Proofs.YtcijanmckhlpiaaDoor
open Go.RowKit Go.Proofs.YtcijanmckhlpiaaDoorW.PrintWords Go.Proofs.YtcijanmckhlpiaaDoorW.PrintLast Go.Proofs.YtcijanmckhlpiaaDoorW.PrintMore Go.Proofs.YtcijanmckhlpiaaDoor.PTableBack
set_option linter.unusedVariables false
set_option linter.unusedSimpArgs false
namespace Dec
theorem w64_nat {i : Nat} (h : i + 1 ≤ 9223372036854775807) : wrap64 ((i : Int) + 1) = ((i + 1 : Nat) : Int) := by unfold wrap64; omega
theorem rdL2_mem (l : List (List S93)) (s : Nat) (h : s < l.length) : rd_L2 l s ∈ l := by
  unfold rd_L2; rw [Int.toNat_natCast, List.getD_eq_getElem?_getD, List.getElem?_eq_getElem h]; exact List.getElem_mem h
theorem rdL3_mem (l : List (List Int)) (s : Nat) (h : s < l.length) : rd_L3 l s ∈ l := by
  unfold rd_L3; rw [Int.toNat_natCast, List.getD_eq_getElem?_getD, List.getElem?_eq_getElem h]; exact List.getElem_mem h
theorem same_l3 (l : List (List S93)) (m : List (List Int)) (s : Nat) (hs : s < m.length) (hm : m.length ≤ 9223372036854775806) (hr : (rd_L3 m s).length ≤ 9223372036854775807) (hnext : Ev (fun k => trellislaw13_same.l2 k ((s + 1 : Nat) : Int) l m l m) true) :
    ∀ (d i : Nat), (rd_L3 m s).length - i = d → i ≤ (rd_L3 m s).length → Ev (fun k => trellislaw13_same.l3 k s i l m l m) true := by
  intro d
  induction d with
  | zero =>
    intro i hd hi
    refine Ev.step (fun k => ?_) hnext
    simp only [trellislaw13_same.l3]
    rw [if_pos (by omega), if_pos (by omega), if_neg (by omega), w64_nat (by omega)]
  | succ d ih =>
    intro i hd hi
    refine Ev.step (fun k => ?_) (ih (i + 1) (by omega) (by omega))
    simp only [trellislaw13_same.l3]
    rw [if_pos (by omega), if_pos (by omega), if_pos (by omega), if_pos (by omega), if_pos (by omega), if_pos (by omega), if_pos trivial, w64_nat (by omega)]
theorem same_l2 (l : List (List S93)) (m : List (List Int)) (hm : m.length ≤ 9223372036854775806) (hr : ∀ x ∈ m, x.length ≤ 9223372036854775807) : ∀ (d s : Nat), m.length - s = d → s ≤ m.length → Ev (fun k => trellislaw13_same.l2 k s l m l m) true := by
  intro d
  induction d with
  | zero =>
    intro s hd hs
    refine Ev.step (f := fun _ => some true) (fun k => ?_) (Ev.now true)
    simp only [trellislaw13_same.l2]
    rw [if_neg (by omega)]
  | succ d ih =>
    intro s hd hs
    refine Ev.step (fun k => ?_) (same_l3 l m s (by omega) hm (hr _ (rdL3_mem m s (by omega))) (ih (s + 1) (by omega) (by omega)) _ 0 rfl (Nat.zero_le _))
    simp only [trellislaw13_same.l2]
    rw [if_pos (by omega), if_pos (by omega), if_pos (by omega), if_pos trivial]
    rfl
theorem same_l1 (l : List (List S93)) (m : List (List Int)) (s : Nat) (hs : s < l.length) (hm : l.length ≤ 9223372036854775806) (hr : (rd_L2 l s).length ≤ 9223372036854775807) (hnext : Ev (fun k => trellislaw13_same.l0 k ((s + 1 : Nat) : Int) l m l m) true) :
    ∀ (d i : Nat), (rd_L2 l s).length - i = d → i ≤ (rd_L2 l s).length → Ev (fun k => trellislaw13_same.l1 k s i l m l m) true := by
  intro d
  induction d with
  | zero =>
    intro i hd hi
    refine Ev.step (fun k => ?_) hnext
    simp only [trellislaw13_same.l1]
    rw [if_pos (by omega), if_pos (by omega), if_neg (by omega), w64_nat (by omega)]
  | succ d ih =>
    intro i hd hi
    refine Ev.step (fun k => ?_) (ih (i + 1) (by omega) (by omega))
    simp only [trellislaw13_same.l1]
    rw [if_pos (by omega), if_pos (by omega), if_pos (by omega), if_pos (by omega), if_pos (by omega), if_pos (by omega), w64_nat (by omega)]
    simp
theorem same_l0 (l : List (List S93)) (m : List (List Int)) (hl : l.length ≤ 9223372036854775806) (hr : ∀ x ∈ l, x.length ≤ 9223372036854775807) (hnext : Ev (fun k => trellislaw13_same.l2 k ((0 : Nat) : Int) l m l m) true) :
    ∀ (d s : Nat), l.length - s = d → s ≤ l.length → Ev (fun k => trellislaw13_same.l0 k s l m l m) true := by
  intro d
  induction d with
  | zero =>
    intro s hd hs
    refine Ev.step (fun k => ?_) hnext
    simp only [trellislaw13_same.l0]
    rw [if_neg (by omega)]
    rfl
  | succ d ih =>
    intro s hd hs
    refine Ev.step (fun k => ?_) (same_l1 l m s (by omega) hl (hr _ (rdL2_mem l s (by omega))) (ih (s + 1) (by omega) (by omega)) _ 0 rfl (Nat.zero_le _))
    simp only [trellislaw13_same.l0]
    rw [if_pos (by omega), if_pos (by omega), if_pos (by omega), if_pos trivial]
    rfl
theorem same_ev (l : List (List S93)) (m : List (List Int)) (hl : l.length ≤ 9223372036854775806) (hm : m.length ≤ 9223372036854775806) (hrl : ∀ x ∈ l, x.length ≤ 9223372036854775807) (hrm : ∀ x ∈ m, x.length ≤ 9223372036854775807) :
    Ev (fun k => trellislaw13_same.f k l m l m) true := by
  unfold trellislaw13_same.f
  refine Ev.congr (f := fun k => trellislaw13_same.j0 k false l m l m) (fun k => by rw [if_pos rfl, bne_self_eq_false]) ?_
  refine Ev.step (fun k => ?_) (same_l0 l m hl hrl (same_l2 l m hm hrm _ 0 rfl (Nat.zero_le _)) _ 0 rfl (Nat.zero_le _))
  simp only [trellislaw13_same.j0]
  rw [if_neg (by decide)]
  rfl
end Dec
end Go.Proofs.YtcijanmckhlpiaaDoor
