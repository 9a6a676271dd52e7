-- PRINTED BY print.sh 35421559b90ae4d0a3588c463048766b98c2df88dd9212a6774a882060cdf62d: not written by this session
import Derived.Test.YtcijanmckhlpiaaPTableEncodesx0
import Derived.Test.YtcijanmckhlpiaaPTableEncodesx9
namespace Go.Proofs.Ytcijanmckhlpiaa.PTableEncodes
open Go.RowKit Go.Proofs.YtcijanmckhlpiaaW.PrintWords Go.Proofs.YtcijanmckhlpiaaW.PrintLast Go.Proofs.YtcijanmckhlpiaaW.PrintMore
attribute [local go_sem] max2_int min2_int max_two min_two max_three min_three max_four min_four   -- for this text's walks alone
set_option linter.unusedVariables false
set_option linter.unusedSimpArgs false

/-! ### trellisref13_Shaped: function 40 -/
mutual
def trellisref13_Shaped.j0 : Nat → Int → Bool → List (List (S80)) → List (List Int) → Option (Bool)
  | 0, _, _, _, _ => none
  | k + 1, x3, x25, x263000, x263001 => if x25 = true then (some false) else (if 0 < (x263000.length : Int) then (if 0 < (x263001.length : Int) then (if ((rd_L2 x263000 0).length : Int) < 1 then (trellisref13_Shaped.j1 k x3 ((rd_L2 x263000 0).length : Int) ((rd_L3 x263001 0).length : Int) true x263000 x263001) else (if ((rd_L2 x263000 0).length : Int) > 64 then (trellisref13_Shaped.j1 k x3 ((rd_L2 x263000 0).length : Int) ((rd_L3 x263001 0).length : Int) true x263000 x263001) else (trellisref13_Shaped.j1 k x3 ((rd_L2 x263000 0).length : Int) ((rd_L3 x263001 0).length : Int) (decide (((rd_L3 x263001 0).length : Int) > 128)) x263000 x263001))) else (none)) else (none))
def trellisref13_Shaped.j1 : Nat → Int → Int → Int → Bool → List (List (S80)) → List (List Int) → Option (Bool)
  | 0, _, _, _, _, _, _ => none
  | k + 1, x3, x4, x5, x45, x263000, x263001 => if x45 = true then (some false) else (trellisref13_Shaped.l0 k x3 x4 x5 0 x263000 x263001)
def trellisref13_Shaped.l0 : Nat → Int → Int → Int → Int → List (List (S80)) → List (List Int) → Option (Bool)
  | 0, _, _, _, _, _, _ => none
  | k + 1, x3, x4, x5, x6, x263000, x263001 => if x6 < x3 then (if 0 ≤ x6 then (if x6 < (x263000.length : Int) then (if ((rd_L2 x263000 x6).length : Int) = x4 then (if x6 < (x263001.length : Int) then (trellisref13_Shaped.j3 k x3 x4 x5 x6 (((rd_L3 x263001 x6).length : Int) != x5) x263000 x263001) else (none)) else (trellisref13_Shaped.j3 k x3 x4 x5 x6 true x263000 x263001)) else (none)) else (none)) else (some true)
def trellisref13_Shaped.j3 : Nat → Int → Int → Int → Int → Bool → List (List (S80)) → List (List Int) → Option (Bool)
  | 0, _, _, _, _, _, _, _ => none
  | k + 1, x3, x4, x5, x6, x68, x263000, x263001 => if x68 = true then (some false) else (trellisref13_Shaped.l1 k x3 x4 x5 x6 0 x263000 x263001)
def trellisref13_Shaped.l1 : Nat → Int → Int → Int → Int → Int → List (List (S80)) → List (List Int) → Option (Bool)
  | 0, _, _, _, _, _, _, _ => none
  | k + 1, x3, x4, x5, x6, x7, x263000, x263001 => if x7 < x4 then (if 0 ≤ x6 then (if x6 < (x263000.length : Int) then (if 0 ≤ x7 then (if x7 < ((rd_L2 x263000 x6).length : Int) then ((trellisref13_fits.f k ((rd_T80 (rd_L2 x263000 x6) x7).f0) ((rd_T80 (rd_L2 x263000 x6) x7).f1) x3).bind fun t269 => (if t269 = true then (trellisref13_Shaped.l1 k x3 x4 x5 x6 (wrap64 (x7 + 1)) x263000 x263001) else (some false))) else (none)) else (none)) else (none)) else (none)) else (trellisref13_Shaped.l2 k x3 x4 x5 x6 0 x263000 x263001)
def trellisref13_Shaped.l2 : Nat → Int → Int → Int → Int → Int → List (List (S80)) → List (List Int) → Option (Bool)
  | 0, _, _, _, _, _, _, _ => none
  | k + 1, x3, x4, x5, x6, x9, x263000, x263001 => if x9 < x5 then (if 0 ≤ x6 then (if x6 < (x263001.length : Int) then (if 0 ≤ x9 then (if x9 < ((rd_L3 x263001 x6).length : Int) then (if (rd (rd_L3 x263001 x6) x9) < (-1) then (some false) else (if (rd (rd_L3 x263001 x6) x9) ≥ x3 then (some false) else (trellisref13_Shaped.l2 k x3 x4 x5 x6 (wrap64 (x9 + 1)) x263000 x263001))) else (none)) else (none)) else (none)) else (none)) else (trellisref13_Shaped.l0 k x3 x4 x5 (wrap64 (x6 + 1)) x263000 x263001)
end
def trellisref13_Shaped.f (k : Nat) (l0_0 : List (List (S80))) (l0_1 : List (List Int)) : Option (Bool) := if (l0_0.length : Int) < 1 then (trellisref13_Shaped.j0 k (l0_0.length : Int) true l0_0 l0_1) else (if (l0_0.length : Int) > 2048 then (trellisref13_Shaped.j0 k (l0_0.length : Int) true l0_0 l0_1) else (trellisref13_Shaped.j0 k (l0_0.length : Int) ((l0_1.length : Int) != (l0_0.length : Int)) l0_0 l0_1))
theorem trellisref13_Shaped.mono_l : ∀ k, (∀ y0 y1 y2 y3, LeO (trellisref13_Shaped.j0 k y0 y1 y2 y3) (trellisref13_Shaped.j0 (k + 1) y0 y1 y2 y3)) ∧ (∀ y0 y1 y2 y3 y4 y5, LeO (trellisref13_Shaped.j1 k y0 y1 y2 y3 y4 y5) (trellisref13_Shaped.j1 (k + 1) y0 y1 y2 y3 y4 y5)) ∧ (∀ y0 y1 y2 y3 y4 y5, LeO (trellisref13_Shaped.l0 k y0 y1 y2 y3 y4 y5) (trellisref13_Shaped.l0 (k + 1) y0 y1 y2 y3 y4 y5)) ∧ (∀ y0 y1 y2 y3 y4 y5 y6, LeO (trellisref13_Shaped.j3 k y0 y1 y2 y3 y4 y5 y6) (trellisref13_Shaped.j3 (k + 1) y0 y1 y2 y3 y4 y5 y6)) ∧ (∀ y0 y1 y2 y3 y4 y5 y6, LeO (trellisref13_Shaped.l1 k y0 y1 y2 y3 y4 y5 y6) (trellisref13_Shaped.l1 (k + 1) y0 y1 y2 y3 y4 y5 y6)) ∧ (∀ y0 y1 y2 y3 y4 y5 y6, LeO (trellisref13_Shaped.l2 k y0 y1 y2 y3 y4 y5 y6) (trellisref13_Shaped.l2 (k + 1) y0 y1 y2 y3 y4 y5 y6))
  | 0 => ⟨fun _ _ _ _ r h => by simp [trellisref13_Shaped.j0] at h, fun _ _ _ _ _ _ r h => by simp [trellisref13_Shaped.j1] at h, fun _ _ _ _ _ _ r h => by simp [trellisref13_Shaped.l0] at h, fun _ _ _ _ _ _ _ r h => by simp [trellisref13_Shaped.j3] at h, fun _ _ _ _ _ _ _ r h => by simp [trellisref13_Shaped.l1] at h, fun _ _ _ _ _ _ _ r h => by simp [trellisref13_Shaped.l2] at h⟩
  | k + 1 => by
    obtain ⟨ih0, ih1, ih2, ih3, ih4, ih5⟩ := trellisref13_Shaped.mono_l k
    refine ⟨?_, ?_, ?_, ?_, ?_, ?_⟩
    · intro y0 y1 y2 y3
      unfold trellisref13_Shaped.j0
      repeat' first
      | (with_reducible exact ih0 _ _ _ _)
      | (with_reducible exact ih1 _ _ _ _ _ _)
      | (with_reducible exact ih2 _ _ _ _ _ _)
      | (with_reducible exact ih3 _ _ _ _ _ _ _)
      | (with_reducible exact ih4 _ _ _ _ _ _ _)
      | (with_reducible exact ih5 _ _ _ _ _ _ _)
      | (with_reducible exact trellisref13_fits.mono _ _ _ _)
      | (with_reducible exact LeO.refl _)
      | (with_reducible exact LeO.none _)
      | (with_reducible refine LeO.ite ?_ ?_)
      | (with_reducible refine LeO.bind ?_ (fun _ => ?_))
      | exact ih0 _ _ _ _
      | exact ih1 _ _ _ _ _ _
      | exact ih2 _ _ _ _ _ _
      | exact ih3 _ _ _ _ _ _ _
      | exact ih4 _ _ _ _ _ _ _
      | exact ih5 _ _ _ _ _ _ _
      | exact trellisref13_fits.mono _ _ _ _
      | exact LeO.none _
      | refine LeO.ite ?_ ?_
      | refine LeO.bind ?_ (fun _ => ?_)
    · intro y0 y1 y2 y3 y4 y5
      unfold trellisref13_Shaped.j1
      repeat' first
      | (with_reducible exact ih0 _ _ _ _)
      | (with_reducible exact ih1 _ _ _ _ _ _)
      | (with_reducible exact ih2 _ _ _ _ _ _)
      | (with_reducible exact ih3 _ _ _ _ _ _ _)
      | (with_reducible exact ih4 _ _ _ _ _ _ _)
      | (with_reducible exact ih5 _ _ _ _ _ _ _)
      | (with_reducible exact trellisref13_fits.mono _ _ _ _)
      | (with_reducible exact LeO.refl _)
      | (with_reducible exact LeO.none _)
      | (with_reducible refine LeO.ite ?_ ?_)
      | (with_reducible refine LeO.bind ?_ (fun _ => ?_))
      | exact ih0 _ _ _ _
      | exact ih1 _ _ _ _ _ _
      | exact ih2 _ _ _ _ _ _
      | exact ih3 _ _ _ _ _ _ _
      | exact ih4 _ _ _ _ _ _ _
      | exact ih5 _ _ _ _ _ _ _
      | exact trellisref13_fits.mono _ _ _ _
      | exact LeO.none _
      | refine LeO.ite ?_ ?_
      | refine LeO.bind ?_ (fun _ => ?_)
    · intro y0 y1 y2 y3 y4 y5
      unfold trellisref13_Shaped.l0
      repeat' first
      | (with_reducible exact ih0 _ _ _ _)
      | (with_reducible exact ih1 _ _ _ _ _ _)
      | (with_reducible exact ih2 _ _ _ _ _ _)
      | (with_reducible exact ih3 _ _ _ _ _ _ _)
      | (with_reducible exact ih4 _ _ _ _ _ _ _)
      | (with_reducible exact ih5 _ _ _ _ _ _ _)
      | (with_reducible exact trellisref13_fits.mono _ _ _ _)
      | (with_reducible exact LeO.refl _)
      | (with_reducible exact LeO.none _)
      | (with_reducible refine LeO.ite ?_ ?_)
      | (with_reducible refine LeO.bind ?_ (fun _ => ?_))
      | exact ih0 _ _ _ _
      | exact ih1 _ _ _ _ _ _
      | exact ih2 _ _ _ _ _ _
      | exact ih3 _ _ _ _ _ _ _
      | exact ih4 _ _ _ _ _ _ _
      | exact ih5 _ _ _ _ _ _ _
      | exact trellisref13_fits.mono _ _ _ _
      | exact LeO.none _
      | refine LeO.ite ?_ ?_
      | refine LeO.bind ?_ (fun _ => ?_)
    · intro y0 y1 y2 y3 y4 y5 y6
      unfold trellisref13_Shaped.j3
      repeat' first
      | (with_reducible exact ih0 _ _ _ _)
      | (with_reducible exact ih1 _ _ _ _ _ _)
      | (with_reducible exact ih2 _ _ _ _ _ _)
      | (with_reducible exact ih3 _ _ _ _ _ _ _)
      | (with_reducible exact ih4 _ _ _ _ _ _ _)
      | (with_reducible exact ih5 _ _ _ _ _ _ _)
      | (with_reducible exact trellisref13_fits.mono _ _ _ _)
      | (with_reducible exact LeO.refl _)
      | (with_reducible exact LeO.none _)
      | (with_reducible refine LeO.ite ?_ ?_)
      | (with_reducible refine LeO.bind ?_ (fun _ => ?_))
      | exact ih0 _ _ _ _
      | exact ih1 _ _ _ _ _ _
      | exact ih2 _ _ _ _ _ _
      | exact ih3 _ _ _ _ _ _ _
      | exact ih4 _ _ _ _ _ _ _
      | exact ih5 _ _ _ _ _ _ _
      | exact trellisref13_fits.mono _ _ _ _
      | exact LeO.none _
      | refine LeO.ite ?_ ?_
      | refine LeO.bind ?_ (fun _ => ?_)
    · intro y0 y1 y2 y3 y4 y5 y6
      unfold trellisref13_Shaped.l1
      repeat' first
      | (with_reducible exact ih0 _ _ _ _)
      | (with_reducible exact ih1 _ _ _ _ _ _)
      | (with_reducible exact ih2 _ _ _ _ _ _)
      | (with_reducible exact ih3 _ _ _ _ _ _ _)
      | (with_reducible exact ih4 _ _ _ _ _ _ _)
      | (with_reducible exact ih5 _ _ _ _ _ _ _)
      | (with_reducible exact trellisref13_fits.mono _ _ _ _)
      | (with_reducible exact LeO.refl _)
      | (with_reducible exact LeO.none _)
      | (with_reducible refine LeO.ite ?_ ?_)
      | (with_reducible refine LeO.bind ?_ (fun _ => ?_))
      | exact ih0 _ _ _ _
      | exact ih1 _ _ _ _ _ _
      | exact ih2 _ _ _ _ _ _
      | exact ih3 _ _ _ _ _ _ _
      | exact ih4 _ _ _ _ _ _ _
      | exact ih5 _ _ _ _ _ _ _
      | exact trellisref13_fits.mono _ _ _ _
      | exact LeO.none _
      | refine LeO.ite ?_ ?_
      | refine LeO.bind ?_ (fun _ => ?_)
    · intro y0 y1 y2 y3 y4 y5 y6
      unfold trellisref13_Shaped.l2
      repeat' first
      | (with_reducible exact ih0 _ _ _ _)
      | (with_reducible exact ih1 _ _ _ _ _ _)
      | (with_reducible exact ih2 _ _ _ _ _ _)
      | (with_reducible exact ih3 _ _ _ _ _ _ _)
      | (with_reducible exact ih4 _ _ _ _ _ _ _)
      | (with_reducible exact ih5 _ _ _ _ _ _ _)
      | (with_reducible exact trellisref13_fits.mono _ _ _ _)
      | (with_reducible exact LeO.refl _)
      | (with_reducible exact LeO.none _)
      | (with_reducible refine LeO.ite ?_ ?_)
      | (with_reducible refine LeO.bind ?_ (fun _ => ?_))
      | exact ih0 _ _ _ _
      | exact ih1 _ _ _ _ _ _
      | exact ih2 _ _ _ _ _ _
      | exact ih3 _ _ _ _ _ _ _
      | exact ih4 _ _ _ _ _ _ _
      | exact ih5 _ _ _ _ _ _ _
      | exact trellisref13_fits.mono _ _ _ _
      | exact LeO.none _
      | refine LeO.ite ?_ ?_
      | refine LeO.bind ?_ (fun _ => ?_)
theorem trellisref13_Shaped.mono : ∀ a0 a1 k, LeO (trellisref13_Shaped.f k a0 a1) (trellisref13_Shaped.f (k + 1) a0 a1) := by
  intro a0 a1 k
  obtain ⟨ih0, ih1, ih2, ih3, ih4, ih5⟩ := trellisref13_Shaped.mono_l k
  unfold trellisref13_Shaped.f
  repeat' first
      | (with_reducible exact ih0 _ _ _ _)
      | (with_reducible exact ih1 _ _ _ _ _ _)
      | (with_reducible exact ih2 _ _ _ _ _ _)
      | (with_reducible exact ih3 _ _ _ _ _ _ _)
      | (with_reducible exact ih4 _ _ _ _ _ _ _)
      | (with_reducible exact ih5 _ _ _ _ _ _ _)
      | (with_reducible exact trellisref13_fits.mono _ _ _ _)
      | (with_reducible exact LeO.refl _)
      | (with_reducible exact LeO.none _)
      | (with_reducible refine LeO.ite ?_ ?_)
      | (with_reducible refine LeO.bind ?_ (fun _ => ?_))
      | exact ih0 _ _ _ _
      | exact ih1 _ _ _ _ _ _
      | exact ih2 _ _ _ _ _ _
      | exact ih3 _ _ _ _ _ _ _
      | exact ih4 _ _ _ _ _ _ _
      | exact ih5 _ _ _ _ _ _ _
      | exact trellisref13_fits.mono _ _ _ _
      | exact LeO.none _
      | refine LeO.ite ?_ ?_
      | refine LeO.bind ?_ (fun _ => ?_)
set_option maxHeartbeats 8000000 in
set_option maxRecDepth 100000 in
theorem trellisref13_Shaped.calls (k : Nat) (A0_0 : Option Addr) (c0_0 : Nat) (l0_0 : List (List (S80))) (A0_1 : Option Addr) (c0_1 : Nat) (l0_1 : List (List Int)) (r : Bool) (w : World) (hr0_0 : Kd.C (Kd.slice 80 k80) w A0_0 l0_0.length l0_0) (hc0_0 : l0_0.length ≤ c0_0) (hr0_1 : Kd.C (Kd.slice 3 (Kd.int .i64)) w A0_1 l0_1.length l0_1) (hc0_1 : l0_1.length ≤ c0_1) (h : trellisref13_Shaped.f k l0_0 l0_1 = some r) :
    Calls Try.prog 40 #[.agg #[.slice A0_0 l0_0.length c0_0, .slice A0_1 l0_1.length c0_1]] w fun e w' => e = .returned (.bool r) ∧ Below w.heap.size w w' := by
  have hu25 := Try.underlying25
  have hu80 := Try.underlying80
  have HR0_0 := Aside0.mk hr0_0
  have HC0_0 := Aside0.mk hc0_0
  clear hr0_0 hc0_0
  have HR0_1 := Aside0.mk hr0_1
  have HC0_1 := Aside0.mk hc0_1
  clear hr0_1 hc0_1
  have HB := Aside0.mk (Below.refl w.heap.size w)
  have H : (if (l0_0.length : Int) < 1 then (trellisref13_Shaped.j0 k (l0_0.length : Int) true l0_0 l0_1) else (if (l0_0.length : Int) > 2048 then (trellisref13_Shaped.j0 k (l0_0.length : Int) true l0_0 l0_1) else (trellisref13_Shaped.j0 k (l0_0.length : Int) ((l0_1.length : Int) != (l0_0.length : Int)) l0_0 l0_1))) = some r := h
  clear h
  have HC2 := Aside0.mk H
  clear H
  go_enter Try.func40, Try.ntmps40
  go_upto_region 2 with (first | ((with_reducible refine gate_dst (N := 1) rfl ?_); (try (refine gate_guard (by rfl) ?_; dsimp only)); refine box_event ?hg (N := 1) ?hd (cs := #[.slice A0_0 l0_0.length c0_0, .slice A0_1 l0_1.length c0_1]) (t := 25) ?hr ?_; (case hd => rfl); (case hg => rfl); (case hr => first | (go_simp; done) | (go_simp; rfl)); intro gb262 hg w3 hbox hb; have n0_ := Aside0.mk (below_step (by repeat (first | (with_reducible first | exact HB.out | apply below_alloc | apply pw_below_drewN | apply below_drew1) | exact HB.out)) hb); have n1_ := Aside0.mk (hbox); have n2_ := Aside0.mk ((by rw [hg]; exact (below_size (by repeat (first | (with_reducible first | exact HB.out | apply below_alloc | apply pw_below_drewN | apply below_drew1) | exact HB.out))) : w.heap.size ≤ gb262)); have n3_ := Aside0.mk ((by rw [hg]; exact (below_size (by repeat (first | (with_reducible first | exact HB.out | apply below_alloc | apply pw_below_drewN | apply below_drew1) | exact HB.out))) : w.heap.size ≤ gb262)); clear HB; have HB := n0_; have BK262 := n1_; have GW262 := n2_; have GE262 := n3_; clear n0_ n1_ n2_ n3_; clear hb hbox hg; have hcz4_0 : w3.cell? ⟨gb262, 0, none⟩ = some (.slice A0_0 l0_0.length c0_0) := (blk_cell BK262.out 0).trans rfl; have hcz4_1 : w3.cell? ⟨gb262, 1, none⟩ = some (.slice A0_1 l0_1.length c0_1) := (blk_cell BK262.out 1).trans rfl; have hfz4_0 := blk_frozen BK262.out 0; have hfz4_1 := blk_frozen BK262.out 1))
  (try simp only [Act.put, List.setIfInBounds_toArray, List.set_cons_zero, List.set_cons_succ])
  go_cut [25] (fun v25 wc => ∃ (kq : Nat) (x25_1 : Bool), v25 = .bool x25_1 ∧ Aside0 (trellisref13_Shaped.j0 kq (l0_0.length : Int) x25_1 l0_0 l0_1 = some r) ∧ Aside0 (kq ≤ k) ∧ Aside0 (wc.heap[gb262]? = some (.cells #[(.slice A0_0 l0_0.length c0_0), (.slice A0_1 l0_1.length c0_1)] 25 (0, 0))) ∧ Aside0 (Below w.heap.size w wc))
  case first =>
    have H := HC2.out
    clear HC2
    by_cases c5 : (l0_0.length : Int) < 1
    · rw [if_pos c5] at H
      have c5b0 : decide ((l0_0.length : Int) < 1) = true := decide_eq_true c5
      have c5b1 : decide (l0_0.length < 1) = true := decide_eq_true (by omega)
      clear c5
      (first | rw [c5b0] | (simp only [i64_w, i32_w]; rw [c5b0]) | skip)
      have H' := Aside0.mk H
      clear H
      go_wp2
      go_meet
      case rel => exact ⟨_, (true), (by first | rfl | (simp; done) | (simp [*]; done)), H', ⟨by first | omega | exact Nat.le_refl _⟩, ⟨by (with_reducible repeat (first | refine blk_drewN ?_ _ | refine blk_drew ?_ | refine blk_alloc ?_ _)); exact BK262.out⟩, ⟨by repeat (first | (with_reducible first | exact HB.out | apply below_alloc | apply pw_below_drewN | apply below_drew1 | refine below_set ?_ GE262.out) | exact HB.out)⟩⟩
    · rw [if_neg c5] at H
      have c5b0 : decide ((l0_0.length : Int) < 1) = false := decide_eq_false c5
      have c5b1 : decide (l0_0.length < 1) = false := decide_eq_false (by omega)
      clear c5
      (first | rw [c5b0] | (simp only [i64_w, i32_w]; rw [c5b0]) | skip)
      by_cases c6 : (l0_0.length : Int) > 2048
      · rw [if_pos c6] at H
        have c6b0 : decide (2048 < (l0_0.length : Int)) = true := decide_eq_true c6
        have c6b1 : decide (2048 < l0_0.length) = true := decide_eq_true (by omega)
        clear c6
        have H' := Aside0.mk H
        clear H
        go_wp2
        go_meet
        case rel => exact ⟨_, (true), (by first | rfl | (simp; done) | (simp [*]; done)), H', ⟨by first | omega | exact Nat.le_refl _⟩, ⟨by (with_reducible repeat (first | refine blk_drewN ?_ _ | refine blk_drew ?_ | refine blk_alloc ?_ _)); exact BK262.out⟩, ⟨by repeat (first | (with_reducible first | exact HB.out | apply below_alloc | apply pw_below_drewN | apply below_drew1 | refine below_set ?_ GE262.out) | exact HB.out)⟩⟩
      · rw [if_neg c6] at H
        have c6b0 : decide (2048 < (l0_0.length : Int)) = false := decide_eq_false c6
        have c6b1 : decide (2048 < l0_0.length) = false := decide_eq_false (by omega)
        clear c6
        have H' := Aside0.mk H
        clear H
        have hcz7_0 : w3.cell? ⟨gb262, 0, none⟩ = some (.slice A0_0 l0_0.length c0_0) := (blk_cell BK262.out 0).trans rfl
        have hcz7_1 : w3.cell? ⟨gb262, 1, none⟩ = some (.slice A0_1 l0_1.length c0_1) := (blk_cell BK262.out 1).trans rfl
        have hfz7_0 := blk_frozen BK262.out 0
        have hfz7_1 := blk_frozen BK262.out 1
        go_wp2
        go_meet
        case rel => exact ⟨_, (((l0_1.length : Int) != (l0_0.length : Int))), (by first | rfl | (simp; done) | (simp [*]; done)), H', ⟨by first | omega | exact Nat.le_refl _⟩, ⟨by (with_reducible repeat (first | refine blk_drewN ?_ _ | refine blk_drew ?_ | refine blk_alloc ?_ _)); exact BK262.out⟩, ⟨by repeat (first | (with_reducible first | exact HB.out | apply below_alloc | apply pw_below_drewN | apply below_drew1 | refine below_set ?_ GE262.out) | exact HB.out)⟩⟩
  case rest =>
    clear HC2
    try clear p2
    try clear c4
    try clear c5
    try clear c5b0
    try clear c5b1
    try clear c6
    try clear c6b0
    try clear c6b1
    try clear hcz4_0
    try clear hcz4_1
    try clear hcz7_0
    try clear hcz7_1
    try clear hfz4_0
    try clear hfz4_1
    try clear hfz7_0
    try clear hfz7_1
    obtain ⟨kq, x25_1, rfl, HA, HJ1, BK262, HB⟩ := hcut
    cases kq with
    | zero => exact absurd HA.out (by simp [trellisref13_Shaped.j0])
    | succ kj1 =>
      have H := HA.out
      clear HA
      simp only [trellisref13_Shaped.j0] at H
      by_cases c8 : x25_1 = true
      · subst c8
        have H1 : (some false) = some r := by rw [if_pos rfl] at H; exact H
        clear H
        have H := H1
        clear H1
        obtain rfl := Option.some.inj H
        go_wp2
        go_ret
        exact ⟨by first | rfl | (simp [errW_none, errW_some] <;> rfl) | (simp [*, errW_none, errW_some] <;> rfl), by repeat (first | (with_reducible first | exact HB.out | apply below_alloc | apply pw_below_drewN | apply below_drew1 | refine below_set ?_ GE262.out) | exact HB.out)⟩
      · replace c8 := Bool.eq_false_iff.mpr c8
        subst c8
        have H1 : (if 0 < (l0_0.length : Int) then (if 0 < (l0_1.length : Int) then (if ((rd_L2 l0_0 0).length : Int) < 1 then (trellisref13_Shaped.j1 kj1 (l0_0.length : Int) ((rd_L2 l0_0 0).length : Int) ((rd_L3 l0_1 0).length : Int) true l0_0 l0_1) else (if ((rd_L2 l0_0 0).length : Int) > 64 then (trellisref13_Shaped.j1 kj1 (l0_0.length : Int) ((rd_L2 l0_0 0).length : Int) ((rd_L3 l0_1 0).length : Int) true l0_0 l0_1) else (trellisref13_Shaped.j1 kj1 (l0_0.length : Int) ((rd_L2 l0_0 0).length : Int) ((rd_L3 l0_1 0).length : Int) (decide (((rd_L3 l0_1 0).length : Int) > 128)) l0_0 l0_1))) else (none)) else (none)) = some r := by rw [if_neg (show ¬ (false = true) by decide)] at H; exact H
        clear H
        have H := H1
        clear H1
        by_cases c9 : 0 < (l0_0.length : Int)
        · rw [if_pos c9] at H
          have c9b0 : decide (0 < (l0_0.length : Int)) = true := decide_eq_true c9
          have c9b1 : decide (0 < l0_0.length) = true := decide_eq_true (by omega)
          clear c9
          by_cases c10 : 0 < (l0_1.length : Int)
          · rw [if_pos c10] at H
            have c10b0 : decide (0 < (l0_1.length : Int)) = true := decide_eq_true c10
            have c10b1 : decide (0 < l0_1.length) = true := decide_eq_true (by omega)
            clear c10
            have HC11 := Aside0.mk H
            clear H
            have hcz12_0 : wc.cell? ⟨gb262, 0, none⟩ = some (.slice A0_0 l0_0.length c0_0) := (blk_cell BK262.out 0).trans rfl
            have hcz12_1 : wc.cell? ⟨gb262, 1, none⟩ = some (.slice A0_1 l0_1.length c0_1) := (blk_cell BK262.out 1).trans rfl
            have hfz12_0 := blk_frozen BK262.out 0
            have hfz12_1 := blk_frozen BK262.out 1
            have p263 : 0 ≤ (0 : Int) := (by omega)
            have q263 : 0 < (l0_0.length : Int) := of_decide_eq_true (by first | (with_reducible assumption) | assumption)
            obtain ⟨ad263, A263_0, c263_0, e263, hx263_0, hl263_0, hi263_0⟩ := at_L2 HR0_0.out 0 p263 q263
            cases e263
            have qi263 : (0 < l0_0.length) = True := eq_true (by omega)
            (try rw [show ((0 : Int)).toNat = 0 from rfl] at hx263_0)
            (try rw [Addr.add_zero'] at hx263_0)
            replace hx263_0 := (HB.out.cell (World.block_lt_of_cell? w _ hx263_0)).trans hx263_0
            have HR263_0 := Aside0.mk hi263_0
            have HC263_0 := Aside0.mk hl263_0
            clear hi263_0 hl263_0
            replace p263 := eq_true p263
            replace q263 := eq_true q263
            have p264 : 0 ≤ (0 : Int) := (by omega)
            have q264 : 0 < (l0_1.length : Int) := of_decide_eq_true (by first | (with_reducible assumption) | assumption)
            obtain ⟨ad264, A264_0, c264_0, e264, hx264_0, hl264_0, hi264_0⟩ := at_L3 HR0_1.out 0 p264 q264
            cases e264
            have qi264 : (0 < l0_1.length) = True := eq_true (by omega)
            (try rw [show ((0 : Int)).toNat = 0 from rfl] at hx264_0)
            (try rw [Addr.add_zero'] at hx264_0)
            replace hx264_0 := (HB.out.cell (World.block_lt_of_cell? w _ hx264_0)).trans hx264_0
            have HR264_0 := Aside0.mk hi264_0
            have HC264_0 := Aside0.mk hl264_0
            clear hi264_0 hl264_0
            replace p264 := eq_true p264
            replace q264 := eq_true q264
            go_upto_region 6 with (fail)
            go_cut [45] (fun v45 wc => ∃ (kq : Nat) (x45_10 : Bool), v45 = .bool x45_10 ∧ Aside0 (trellisref13_Shaped.j1 kq (l0_0.length : Int) ((rd_L2 l0_0 0).length : Int) ((rd_L3 l0_1 0).length : Int) x45_10 l0_0 l0_1 = some r) ∧ Aside0 (kq ≤ kj1) ∧ Aside0 (wc.heap[gb262]? = some (.cells #[(.slice (some ad263) l0_0.length c0_0), (.slice (some ad264) l0_1.length c0_1)] 25 (0, 0))) ∧ Aside0 (Below w.heap.size w wc))
            case first =>
              have H := HC11.out
              clear HC11
              by_cases c13 : ((rd_L2 l0_0 0).length : Int) < 1
              · rw [if_pos c13] at H
                have c13b0 : decide (((rd_L2 l0_0 0).length : Int) < 1) = true := decide_eq_true c13
                have c13b1 : decide ((rd_L2 l0_0 0).length < 1) = true := decide_eq_true (by omega)
                clear c13
                (first | rw [c13b0] | (simp only [i64_w, i32_w]; rw [c13b0]) | skip)
                have H' := Aside0.mk H
                clear H
                go_wp2
                go_meet
                case rel => exact ⟨_, (true), (by first | rfl | (simp; done) | (simp [*]; done)), H', ⟨by have := HJ1.out; first | omega | exact Nat.le_refl _⟩, ⟨by (with_reducible repeat (first | refine blk_drewN ?_ _ | refine blk_drew ?_ | refine blk_alloc ?_ _)); exact BK262.out⟩, ⟨by repeat (first | (with_reducible first | exact HB.out | apply below_alloc | apply pw_below_drewN | apply below_drew1 | refine below_set ?_ GE262.out) | exact HB.out)⟩⟩
              · rw [if_neg c13] at H
                have c13b0 : decide (((rd_L2 l0_0 0).length : Int) < 1) = false := decide_eq_false c13
                have c13b1 : decide ((rd_L2 l0_0 0).length < 1) = false := decide_eq_false (by omega)
                clear c13
                (first | rw [c13b0] | (simp only [i64_w, i32_w]; rw [c13b0]) | skip)
                by_cases c14 : ((rd_L2 l0_0 0).length : Int) > 64
                · rw [if_pos c14] at H
                  have c14b0 : decide (64 < ((rd_L2 l0_0 0).length : Int)) = true := decide_eq_true c14
                  have c14b1 : decide (64 < (rd_L2 l0_0 0).length) = true := decide_eq_true (by omega)
                  clear c14
                  have H' := Aside0.mk H
                  clear H
                  go_wp2
                  go_meet
                  case rel => exact ⟨_, (true), (by first | rfl | (simp; done) | (simp [*]; done)), H', ⟨by have := HJ1.out; first | omega | exact Nat.le_refl _⟩, ⟨by (with_reducible repeat (first | refine blk_drewN ?_ _ | refine blk_drew ?_ | refine blk_alloc ?_ _)); exact BK262.out⟩, ⟨by repeat (first | (with_reducible first | exact HB.out | apply below_alloc | apply pw_below_drewN | apply below_drew1 | refine below_set ?_ GE262.out) | exact HB.out)⟩⟩
                · rw [if_neg c14] at H
                  have c14b0 : decide (64 < ((rd_L2 l0_0 0).length : Int)) = false := decide_eq_false c14
                  have c14b1 : decide (64 < (rd_L2 l0_0 0).length) = false := decide_eq_false (by omega)
                  clear c14
                  have H' := Aside0.mk H
                  clear H
                  go_wp2
                  go_meet
                  case rel => exact ⟨_, (decide (((rd_L3 l0_1 0).length : Int) > 128)), (by first | rfl | (simp; done) | (simp [*]; done)), H', ⟨by have := HJ1.out; first | omega | exact Nat.le_refl _⟩, ⟨by (with_reducible repeat (first | refine blk_drewN ?_ _ | refine blk_drew ?_ | refine blk_alloc ?_ _)); exact BK262.out⟩, ⟨by repeat (first | (with_reducible first | exact HB.out | apply below_alloc | apply pw_below_drewN | apply below_drew1 | refine below_set ?_ GE262.out) | exact HB.out)⟩⟩
            case rest =>
              clear HC11
              try clear c1
              try clear c2
              try clear p2
              try clear q2
              try clear hx2
              try clear qi2
              try clear c4
              try clear c5
              try clear c5b0
              try clear c5b1
              try clear c6
              try clear c6b0
              try clear c6b1
              try clear c8
              try clear c9
              try clear c9b0
              try clear c9b1
              try clear c10
              try clear c10b0
              try clear c10b1
              try clear c13
              try clear c13b0
              try clear c13b1
              try clear c14
              try clear c14b0
              try clear c14b1
              try clear hcz12_0
              try clear hcz12_1
              try clear hcz4_0
              try clear hcz4_1
              try clear hcz7_0
              try clear hcz7_1
              try clear hfz12_0
              try clear hfz12_1
              try clear hfz4_0
              try clear hfz4_1
              try clear hfz7_0
              try clear hfz7_1
              try clear hx263_0
              try clear hx264_0
              try clear p2
              try clear p263
              try clear p264
              try clear q263
              try clear q264
              obtain ⟨kq, x45_10, rfl, HA, HJ10, BK262, HB⟩ := hcut
              cases kq with
              | zero => exact absurd HA.out (by simp [trellisref13_Shaped.j1])
              | succ kj10 =>
                have H := HA.out
                clear HA
                simp only [trellisref13_Shaped.j1] at H
                by_cases c15 : x45_10 = true
                · subst c15
                  have H1 : (some false) = some r := by rw [if_pos rfl] at H; exact H
                  clear H
                  have H := H1
                  clear H1
                  obtain rfl := Option.some.inj H
                  go_wp2
                  go_ret
                  exact ⟨by first | rfl | (simp [errW_none, errW_some] <;> rfl) | (simp [*, errW_none, errW_some] <;> rfl), by repeat (first | (with_reducible first | exact HB.out | apply below_alloc | apply pw_below_drewN | apply below_drew1 | refine below_set ?_ GE262.out) | exact HB.out)⟩
                · replace c15 := Bool.eq_false_iff.mpr c15
                  subst c15
                  have H1 : (trellisref13_Shaped.l0 kj10 (l0_0.length : Int) ((rd_L2 l0_0 0).length : Int) ((rd_L3 l0_1 0).length : Int) 0 l0_0 l0_1) = some r := by rw [if_neg (show ¬ (false = true) by decide)] at H; exact H
                  clear H
                  have H := H1
                  clear H1
                  have H' := Aside0.mk H
                  clear H
                  go_wp2
                  go_loopg [6] kj10 (fun kq v6 w' => ∃ (x6_3 : Int), v6 = .int .i64 x6_3 ∧ Aside0 (trellisref13_Shaped.l0 kq (l0_0.length : Int) ((rd_L2 l0_0 0).length : Int) ((rd_L3 l0_1 0).length : Int) x6_3 l0_0 l0_1 = some r) ∧ Aside0 (kq ≤ kj10) ∧ Aside0 (w'.heap[gb262]? = some (.cells #[(.slice (some ad263) l0_0.length c0_0), (.slice (some ad264) l0_1.length c0_1)] 25 (0, 0))) ∧ Aside0 (Below w.heap.size w w'))
                  case atStart => exact ⟨(0), (by first | rfl | (simp; done) | (simp [*]; done)), H', ⟨Nat.le_refl _⟩, ⟨by (with_reducible repeat (first | refine blk_drewN ?_ _ | refine blk_drew ?_ | refine blk_alloc ?_ _)); exact BK262.out⟩, ⟨by repeat (first | (with_reducible first | exact HB.out | apply below_alloc | apply pw_below_drewN | apply below_drew1 | refine below_set ?_ GE262.out) | exact HB.out)⟩⟩
                  case round =>
                    clear H'
                    try clear c1
                    try clear c2
                    try clear p2
                    try clear q2
                    try clear hx2
                    try clear qi2
                    try clear c4
                    try clear c5
                    try clear c5b0
                    try clear c5b1
                    try clear c6
                    try clear c6b0
                    try clear c6b1
                    try clear c8
                    try clear c9
                    try clear c9b0
                    try clear c9b1
                    try clear c10
                    try clear c10b0
                    try clear c10b1
                    try clear c13
                    try clear c13b0
                    try clear c13b1
                    try clear c14
                    try clear c14b0
                    try clear c14b1
                    try clear c15
                    try clear hcz12_0
                    try clear hcz12_1
                    try clear hcz4_0
                    try clear hcz4_1
                    try clear hcz7_0
                    try clear hcz7_1
                    try clear hfz12_0
                    try clear hfz12_1
                    try clear hfz4_0
                    try clear hfz4_1
                    try clear hfz7_0
                    try clear hfz7_1
                    try clear hx263_0
                    try clear hx264_0
                    try clear p2
                    try clear p263
                    try clear p264
                    try clear q2
                    try clear q263
                    try clear q264
                    obtain ⟨x6_3, rfl, HA, HK3, BK262, HB⟩ := hrel
                    cases gk with
                    | zero => exact absurd HA.out (by simp [trellisref13_Shaped.l0])
                    | succ k3 =>
                      have H := HA.out
                      clear HA
                      simp only [trellisref13_Shaped.l0] at H
                      by_cases c16 : x6_3 < (l0_0.length : Int)
                      · rw [if_pos c16] at H
                        have c16b0 : decide (x6_3 < (l0_0.length : Int)) = true := decide_eq_true c16
                        clear c16
                        have HC17 := Aside0.mk H
                        clear H
                        go_upto_region 11 with (fail)
                        go_cut [68] (fun v68 wc => ∃ (kq : Nat) (x68_16 : Bool), v68 = .bool x68_16 ∧ Aside0 (trellisref13_Shaped.j3 kq (l0_0.length : Int) ((rd_L2 l0_0 0).length : Int) ((rd_L3 l0_1 0).length : Int) x6_3 x68_16 l0_0 l0_1 = some r) ∧ Aside0 (kq ≤ k3) ∧ Aside0 (wc.heap[gb262]? = some (.cells #[(.slice (some ad263) l0_0.length c0_0), (.slice (some ad264) l0_1.length c0_1)] 25 (0, 0))) ∧ Aside0 (Below w.heap.size w wc))
                        case first =>
                          have H := HC17.out
                          clear HC17
                          by_cases c18 : 0 ≤ x6_3
                          · rw [if_pos c18] at H
                            have c18b0 : decide (0 ≤ x6_3) = true := decide_eq_true c18
                            clear c18
                            (first | rw [c18b0] | (simp only [i64_w, i32_w]; rw [c18b0]) | skip)
                            by_cases c19 : x6_3 < (l0_0.length : Int)
                            · rw [if_pos c19] at H
                              have c19b0 : decide (x6_3 < (l0_0.length : Int)) = true := decide_eq_true c19
                              clear c19
                              by_cases c20 : ((rd_L2 l0_0 x6_3).length : Int) = ((rd_L2 l0_0 0).length : Int)
                              · rw [if_pos c20] at H
                                have c20b0 : (((rd_L2 l0_0 x6_3).length : Int) == ((rd_L2 l0_0 0).length : Int)) = true := beq_iff_eq.mpr c20
                                have c20b1 : (((rd_L2 l0_0 x6_3).length : Int) != ((rd_L2 l0_0 0).length : Int)) = false := bne_eq_false_iff_eq.mpr c20
                                have c20b2 : ((rd_L2 l0_0 x6_3).length == (rd_L2 l0_0 0).length) = true := by first | simpa using c20 | (simp at c20 ⊢; omega)
                                clear c20
                                by_cases c21 : x6_3 < (l0_1.length : Int)
                                · rw [if_pos c21] at H
                                  have c21b0 : decide (x6_3 < (l0_1.length : Int)) = true := decide_eq_true c21
                                  clear c21
                                  have H' := Aside0.mk H
                                  clear H
                                  have hcz22_0 : wr.cell? ⟨gb262, 0, none⟩ = some (.slice (some ad263) l0_0.length c0_0) := (blk_cell BK262.out 0).trans rfl
                                  have hcz22_1 : wr.cell? ⟨gb262, 1, none⟩ = some (.slice (some ad264) l0_1.length c0_1) := (blk_cell BK262.out 1).trans rfl
                                  have hfz22_0 := blk_frozen BK262.out 0
                                  have hfz22_1 := blk_frozen BK262.out 1
                                  have p265 : 0 ≤ (x6_3 : Int) := of_decide_eq_true (by first | (with_reducible assumption) | assumption)
                                  have q265 : x6_3 < (l0_0.length : Int) := of_decide_eq_true (by first | (with_reducible assumption) | assumption)
                                  obtain ⟨ad265, A265_0, c265_0, e265, hx265_0, hl265_0, hi265_0⟩ := at_L2 HR0_0.out x6_3 p265 q265
                                  obtain rfl : ad263 = ad265 := (by injection e265)
                                  replace hx265_0 := (HB.out.cell (World.block_lt_of_cell? w _ hx265_0)).trans hx265_0
                                  have HR265_0 := Aside0.mk hi265_0
                                  have HC265_0 := Aside0.mk hl265_0
                                  clear hi265_0 hl265_0
                                  replace p265 := eq_true p265
                                  replace q265 := eq_true q265
                                  have p266 : 0 ≤ (x6_3 : Int) := of_decide_eq_true (by first | (with_reducible assumption) | assumption)
                                  have q266 : x6_3 < (l0_1.length : Int) := of_decide_eq_true (by first | (with_reducible assumption) | assumption)
                                  obtain ⟨ad266, A266_0, c266_0, e266, hx266_0, hl266_0, hi266_0⟩ := at_L3 HR0_1.out x6_3 p266 q266
                                  obtain rfl : ad264 = ad266 := (by injection e266)
                                  replace hx266_0 := (HB.out.cell (World.block_lt_of_cell? w _ hx266_0)).trans hx266_0
                                  have HR266_0 := Aside0.mk hi266_0
                                  have HC266_0 := Aside0.mk hl266_0
                                  clear hi266_0 hl266_0
                                  replace p266 := eq_true p266
                                  replace q266 := eq_true q266
                                  go_wp2
                                  go_meet
                                  case rel => exact ⟨_, ((((rd_L3 l0_1 x6_3).length : Int) != ((rd_L3 l0_1 0).length : Int))), (by first | rfl | (simp; done) | (simp [*]; done)), H', ⟨by have := HJ1.out; have := HJ10.out; have := HK3.out; first | omega | exact Nat.le_refl _⟩, ⟨by (with_reducible repeat (first | refine blk_drewN ?_ _ | refine blk_drew ?_ | refine blk_alloc ?_ _)); exact BK262.out⟩, ⟨by repeat (first | (with_reducible first | exact HB.out | apply below_alloc | apply pw_below_drewN | apply below_drew1 | refine below_set ?_ GE262.out) | exact HB.out)⟩⟩
                                · rw [if_neg c21] at H
                                  exact absurd H (by simp)
                              · rw [if_neg c20] at H
                                have c20b0 : (((rd_L2 l0_0 x6_3).length : Int) == ((rd_L2 l0_0 0).length : Int)) = false := beq_eq_false_iff_ne.mpr c20
                                have c20b1 : (((rd_L2 l0_0 x6_3).length : Int) != ((rd_L2 l0_0 0).length : Int)) = true := bne_iff_ne.mpr c20
                                have c20b2 : ((rd_L2 l0_0 x6_3).length == (rd_L2 l0_0 0).length) = false := by first | simpa using c20 | (simp at c20 ⊢; omega)
                                have H' := Aside0.mk H
                                clear H
                                have hcz23_0 : wr.cell? ⟨gb262, 0, none⟩ = some (.slice (some ad263) l0_0.length c0_0) := (blk_cell BK262.out 0).trans rfl
                                have hcz23_1 : wr.cell? ⟨gb262, 1, none⟩ = some (.slice (some ad264) l0_1.length c0_1) := (blk_cell BK262.out 1).trans rfl
                                have hfz23_0 := blk_frozen BK262.out 0
                                have hfz23_1 := blk_frozen BK262.out 1
                                have p265 : 0 ≤ (x6_3 : Int) := of_decide_eq_true (by first | (with_reducible assumption) | assumption)
                                have q265 : x6_3 < (l0_0.length : Int) := of_decide_eq_true (by first | (with_reducible assumption) | assumption)
                                obtain ⟨ad265, A265_0, c265_0, e265, hx265_0, hl265_0, hi265_0⟩ := at_L2 HR0_0.out x6_3 p265 q265
                                obtain rfl : ad263 = ad265 := (by injection e265)
                                replace hx265_0 := (HB.out.cell (World.block_lt_of_cell? w _ hx265_0)).trans hx265_0
                                have HR265_0 := Aside0.mk hi265_0
                                have HC265_0 := Aside0.mk hl265_0
                                clear hi265_0 hl265_0
                                replace p265 := eq_true p265
                                replace q265 := eq_true q265
                                go_wp2
                                go_meet
                                case rel => exact ⟨_, (true), (by first | rfl | (simp; done) | (simp [*]; done)), H', ⟨by have := HJ1.out; have := HJ10.out; have := HK3.out; first | omega | exact Nat.le_refl _⟩, ⟨by (with_reducible repeat (first | refine blk_drewN ?_ _ | refine blk_drew ?_ | refine blk_alloc ?_ _)); exact BK262.out⟩, ⟨by repeat (first | (with_reducible first | exact HB.out | apply below_alloc | apply pw_below_drewN | apply below_drew1 | refine below_set ?_ GE262.out) | exact HB.out)⟩⟩
                            · rw [if_neg c19] at H
                              exact absurd H (by simp)
                          · rw [if_neg c18] at H
                            exact absurd H (by simp)
                        case rest =>
                          clear HC17
                          try clear c1
                          try clear c2
                          try clear p2
                          try clear q2
                          try clear hx2
                          try clear qi2
                          try clear c4
                          try clear c5
                          try clear c5b0
                          try clear c5b1
                          try clear c6
                          try clear c6b0
                          try clear c6b1
                          try clear c8
                          try clear c9
                          try clear c9b0
                          try clear c9b1
                          try clear c10
                          try clear c10b0
                          try clear c10b1
                          try clear c13
                          try clear c13b0
                          try clear c13b1
                          try clear c14
                          try clear c14b0
                          try clear c14b1
                          try clear c15
                          try clear c16
                          try clear c16b0
                          try clear c18
                          try clear c18b0
                          try clear c19
                          try clear c19b0
                          try clear c20
                          try clear c20b0
                          try clear c20b1
                          try clear c20b2
                          try clear c21
                          try clear c21b0
                          try clear hcz12_0
                          try clear hcz12_1
                          try clear hcz22_0
                          try clear hcz22_1
                          try clear hcz23_0
                          try clear hcz23_1
                          try clear hcz4_0
                          try clear hcz4_1
                          try clear hcz7_0
                          try clear hcz7_1
                          try clear hfz12_0
                          try clear hfz12_1
                          try clear hfz22_0
                          try clear hfz22_1
                          try clear hfz23_0
                          try clear hfz23_1
                          try clear hfz4_0
                          try clear hfz4_1
                          try clear hfz7_0
                          try clear hfz7_1
                          try clear hx263_0
                          try clear hx264_0
                          try clear hx265_0
                          try clear hx266_0
                          try clear p2
                          try clear p263
                          try clear p264
                          try clear p265
                          try clear p266
                          try clear q2
                          try clear q263
                          try clear q264
                          try clear q265
                          try clear q266
                          obtain ⟨kq, x68_16, rfl, HA, HJ16, BK262, HB⟩ := hcut
                          cases kq with
                          | zero => exact absurd HA.out (by simp [trellisref13_Shaped.j3])
                          | succ kj16 =>
                            have H := HA.out
                            clear HA
                            simp only [trellisref13_Shaped.j3] at H
                            by_cases c24 : x68_16 = true
                            · subst c24
                              have H1 : (some false) = some r := by rw [if_pos rfl] at H; exact H
                              clear H
                              have H := H1
                              clear H1
                              obtain rfl := Option.some.inj H
                              go_wp2
                              go_ret
                              exact ⟨by first | rfl | (simp [errW_none, errW_some] <;> rfl) | (simp [*, errW_none, errW_some] <;> rfl), by repeat (first | (with_reducible first | exact HB.out | apply below_alloc | apply pw_below_drewN | apply below_drew1 | refine below_set ?_ GE262.out) | exact HB.out)⟩
                            · replace c24 := Bool.eq_false_iff.mpr c24
                              subst c24
                              have H1 : (trellisref13_Shaped.l1 kj16 (l0_0.length : Int) ((rd_L2 l0_0 0).length : Int) ((rd_L3 l0_1 0).length : Int) x6_3 0 l0_0 l0_1) = some r := by rw [if_neg (show ¬ (false = true) by decide)] at H; exact H
                              clear H
                              have H := H1
                              clear H1
                              have H' := Aside0.mk H
                              clear H
                              go_wp2
                              go_loopg [7] kj16 (fun kq v7 w' => ∃ (x7_5 : Int), v7 = .int .i64 x7_5 ∧ Aside0 (trellisref13_Shaped.l1 kq (l0_0.length : Int) ((rd_L2 l0_0 0).length : Int) ((rd_L3 l0_1 0).length : Int) x6_3 x7_5 l0_0 l0_1 = some r) ∧ Aside0 (kq ≤ kj16) ∧ Aside0 (w'.heap[gb262]? = some (.cells #[(.slice (some ad263) l0_0.length c0_0), (.slice (some ad264) l0_1.length c0_1)] 25 (0, 0))) ∧ Aside0 (Below w.heap.size w w'))
                              case atStart => exact ⟨(0), (by first | rfl | (simp; done) | (simp [*]; done)), H', ⟨Nat.le_refl _⟩, ⟨by (with_reducible repeat (first | refine blk_drewN ?_ _ | refine blk_drew ?_ | refine blk_alloc ?_ _)); exact BK262.out⟩, ⟨by repeat (first | (with_reducible first | exact HB.out | apply below_alloc | apply pw_below_drewN | apply below_drew1 | refine below_set ?_ GE262.out) | exact HB.out)⟩⟩
                              case round =>
                                clear H'
                                try clear c1
                                try clear c2
                                try clear p2
                                try clear q2
                                try clear hx2
                                try clear qi2
                                try clear c4
                                try clear c5
                                try clear c5b0
                                try clear c5b1
                                try clear c6
                                try clear c6b0
                                try clear c6b1
                                try clear c8
                                try clear c9
                                try clear c9b0
                                try clear c9b1
                                try clear c10
                                try clear c10b0
                                try clear c10b1
                                try clear c13
                                try clear c13b0
                                try clear c13b1
                                try clear c14
                                try clear c14b0
                                try clear c14b1
                                try clear c15
                                try clear c16
                                try clear c16b0
                                try clear c18
                                try clear c18b0
                                try clear c19
                                try clear c19b0
                                try clear c20
                                try clear c20b0
                                try clear c20b1
                                try clear c20b2
                                try clear c21
                                try clear c21b0
                                try clear c24
                                try clear hcz12_0
                                try clear hcz12_1
                                try clear hcz22_0
                                try clear hcz22_1
                                try clear hcz23_0
                                try clear hcz23_1
                                try clear hcz4_0
                                try clear hcz4_1
                                try clear hcz7_0
                                try clear hcz7_1
                                try clear hfz12_0
                                try clear hfz12_1
                                try clear hfz22_0
                                try clear hfz22_1
                                try clear hfz23_0
                                try clear hfz23_1
                                try clear hfz4_0
                                try clear hfz4_1
                                try clear hfz7_0
                                try clear hfz7_1
                                try clear hx263_0
                                try clear hx264_0
                                try clear hx265_0
                                try clear hx266_0
                                try clear p2
                                try clear p263
                                try clear p264
                                try clear p265
                                try clear p266
                                try clear q2
                                try clear q263
                                try clear q264
                                try clear q265
                                try clear q266
                                obtain ⟨x7_5, rfl, HA, HK5, BK262, HB⟩ := hrel
                                cases gk with
                                | zero => exact absurd HA.out (by simp [trellisref13_Shaped.l1])
                                | succ k5 =>
                                  have H := HA.out
                                  clear HA
                                  simp only [trellisref13_Shaped.l1] at H
                                  by_cases c25 : x7_5 < ((rd_L2 l0_0 0).length : Int)
                                  · rw [if_pos c25] at H
                                    have c25b0 : decide (x7_5 < ((rd_L2 l0_0 0).length : Int)) = true := decide_eq_true c25
                                    clear c25
                                    by_cases c26 : 0 ≤ x6_3
                                    · rw [if_pos c26] at H
                                      have c26b0 : decide (0 ≤ x6_3) = true := decide_eq_true c26
                                      clear c26
                                      by_cases c27 : x6_3 < (l0_0.length : Int)
                                      · rw [if_pos c27] at H
                                        have c27b0 : decide (x6_3 < (l0_0.length : Int)) = true := decide_eq_true c27
                                        clear c27
                                        by_cases c28 : 0 ≤ x7_5
                                        · rw [if_pos c28] at H
                                          have c28b0 : decide (0 ≤ x7_5) = true := decide_eq_true c28
                                          clear c28
                                          by_cases c29 : x7_5 < ((rd_L2 l0_0 x6_3).length : Int)
                                          · rw [if_pos c29] at H
                                            have c29b0 : decide (x7_5 < ((rd_L2 l0_0 x6_3).length : Int)) = true := decide_eq_true c29
                                            clear c29
                                            replace H := Option.bind_eq_some_iff.mp H
                                            obtain ⟨t269, A300, H⟩ := H
                                            replace H : (if t269 = true then (trellisref13_Shaped.l1 k5 (l0_0.length : Int) ((rd_L2 l0_0 0).length : Int) ((rd_L3 l0_1 0).length : Int) x6_3 (wrap64 (x7_5 + 1)) l0_0 l0_1) else (some false)) = some r := H
                                            have A30 := Aside0.mk A300
                                            clear A300
                                            by_cases c31 : t269 = true
                                            · subst c31
                                              have H1 : (trellisref13_Shaped.l1 k5 (l0_0.length : Int) ((rd_L2 l0_0 0).length : Int) ((rd_L3 l0_1 0).length : Int) x6_3 (wrap64 (x7_5 + 1)) l0_0 l0_1) = some r := by rw [if_pos rfl] at H; exact H
                                              clear H
                                              have H := H1
                                              clear H1
                                              have H' := Aside0.mk H
                                              clear H
                                              have hcz32_0 : wr.cell? ⟨gb262, 0, none⟩ = some (.slice (some ad263) l0_0.length c0_0) := (blk_cell BK262.out 0).trans rfl
                                              have hcz32_1 : wr.cell? ⟨gb262, 1, none⟩ = some (.slice (some ad264) l0_1.length c0_1) := (blk_cell BK262.out 1).trans rfl
                                              have hfz32_0 := blk_frozen BK262.out 0
                                              have hfz32_1 := blk_frozen BK262.out 1
                                              have p267 : 0 ≤ (x6_3 : Int) := of_decide_eq_true (by first | (with_reducible assumption) | assumption)
                                              have q267 : x6_3 < (l0_0.length : Int) := of_decide_eq_true (by first | (with_reducible assumption) | assumption)
                                              obtain ⟨ad267, A267_0, c267_0, e267, hx267_0, hl267_0, hi267_0⟩ := at_L2 HR0_0.out x6_3 p267 q267
                                              obtain rfl : ad263 = ad267 := (by injection e267)
                                              replace hx267_0 := (HB.out.cell (World.block_lt_of_cell? w _ hx267_0)).trans hx267_0
                                              have HR267_0 := Aside0.mk hi267_0
                                              have HC267_0 := Aside0.mk hl267_0
                                              clear hi267_0 hl267_0
                                              replace p267 := eq_true p267
                                              replace q267 := eq_true q267
                                              have p268 : 0 ≤ (x7_5 : Int) := of_decide_eq_true (by first | (with_reducible assumption) | assumption)
                                              have q268 : x7_5 < ((rd_L2 l0_0 x6_3).length : Int) := of_decide_eq_true (by first | (with_reducible assumption) | assumption)
                                              obtain ⟨ad268, e268, hx268_0, hx268_1⟩ := at_T80 HR267_0.out x7_5 p268 q268
                                              cases e268
                                              replace hx268_0 := (HB.out.cell (World.block_lt_of_cell? w _ hx268_0)).trans hx268_0
                                              replace hx268_1 := (HB.out.cell (World.block_lt_of_cell? w _ hx268_1)).trans hx268_1
                                              replace p268 := eq_true p268
                                              replace q268 := eq_true q268
                                              go_wp2_with (first | ((with_reducible refine gate_callee (f := 50) rfl ?_); refine goesL_ (some 83) rfl rfl Try.func50 (by kernel_rfl) rfl #[.agg #[.int .i64 ((rd_T80 (rd_L2 l0_0 x6_3) x7_5).f0), .int .i64 ((rd_T80 (rd_L2 l0_0 x6_3) x7_5).f1)], .int .i64 (l0_0.length : Int)] rfl (by (try simp only [List.map_toArray, List.map_cons, List.map_nil]); first | done | rfl | (simp only [List.length_drop, List.length_take]; rfl)) ?_; (with_reducible refine (trellisref13_fits.calls k5 ((rd_T80 (rd_L2 l0_0 x6_3) x7_5).f0) ((rd_T80 (rd_L2 l0_0 x6_3) x7_5).f1) (l0_0.length : Int) true _ A30.out).mono ?_); rintro e w33 ⟨rfl, hb⟩; refine ⟨_, rfl, ?_⟩; have n0_ := Aside0.mk (blk_below (g := gb262) (o := .cells #[.slice (some ad263) l0_0.length c0_0, .slice (some ad264) l0_1.length c0_1] 25 (0, 0)) (by (with_reducible repeat (first | refine blk_drewN ?_ _ | refine blk_drew ?_ | refine blk_alloc ?_ _)); exact BK262.out) hb); have n1_ := Aside0.mk (below_step (by repeat (first | (with_reducible first | exact HB.out | apply below_alloc | apply pw_below_drewN | apply below_drew1 | refine below_set ?_ GE262.out) | exact HB.out)) hb); clear BK262; clear HB; have BK262 := n0_; have HB := n1_; clear n0_ n1_; (try clear hb); (try clear hb2); (try clear hk); (try clear hi)))
                                              go_roundg k5
                                              case measure => have := HJ1.out; have := HJ10.out; have := HK3.out; have := HJ16.out; have := HK5.out; omega
                                              case rel => exact ⟨(wrap64 (x7_5 + 1)), (by first | rfl | (simp; done) | (simp [*]; done)), H', ⟨by have := HJ1.out; have := HJ10.out; have := HK3.out; have := HJ16.out; have := HK5.out; omega⟩, ⟨by (with_reducible repeat (first | refine blk_drewN ?_ _ | refine blk_drew ?_ | refine blk_alloc ?_ _)); exact BK262.out⟩, ⟨by repeat (first | (with_reducible first | exact HB.out | apply below_alloc | apply pw_below_drewN | apply below_drew1 | refine below_set ?_ GE262.out) | exact HB.out)⟩⟩
                                            · replace c31 := Bool.eq_false_iff.mpr c31
                                              subst c31
                                              have H1 : (some false) = some r := by rw [if_neg (show ¬ (false = true) by decide)] at H; exact H
                                              clear H
                                              have H := H1
                                              clear H1
                                              obtain rfl := Option.some.inj H
                                              have hcz34_0 : wr.cell? ⟨gb262, 0, none⟩ = some (.slice (some ad263) l0_0.length c0_0) := (blk_cell BK262.out 0).trans rfl
                                              have hcz34_1 : wr.cell? ⟨gb262, 1, none⟩ = some (.slice (some ad264) l0_1.length c0_1) := (blk_cell BK262.out 1).trans rfl
                                              have hfz34_0 := blk_frozen BK262.out 0
                                              have hfz34_1 := blk_frozen BK262.out 1
                                              have p267 : 0 ≤ (x6_3 : Int) := of_decide_eq_true (by first | (with_reducible assumption) | assumption)
                                              have q267 : x6_3 < (l0_0.length : Int) := of_decide_eq_true (by first | (with_reducible assumption) | assumption)
                                              obtain ⟨ad267, A267_0, c267_0, e267, hx267_0, hl267_0, hi267_0⟩ := at_L2 HR0_0.out x6_3 p267 q267
                                              obtain rfl : ad263 = ad267 := (by injection e267)
                                              replace hx267_0 := (HB.out.cell (World.block_lt_of_cell? w _ hx267_0)).trans hx267_0
                                              have HR267_0 := Aside0.mk hi267_0
                                              have HC267_0 := Aside0.mk hl267_0
                                              clear hi267_0 hl267_0
                                              replace p267 := eq_true p267
                                              replace q267 := eq_true q267
                                              have p268 : 0 ≤ (x7_5 : Int) := of_decide_eq_true (by first | (with_reducible assumption) | assumption)
                                              have q268 : x7_5 < ((rd_L2 l0_0 x6_3).length : Int) := of_decide_eq_true (by first | (with_reducible assumption) | assumption)
                                              obtain ⟨ad268, e268, hx268_0, hx268_1⟩ := at_T80 HR267_0.out x7_5 p268 q268
                                              cases e268
                                              replace hx268_0 := (HB.out.cell (World.block_lt_of_cell? w _ hx268_0)).trans hx268_0
                                              replace hx268_1 := (HB.out.cell (World.block_lt_of_cell? w _ hx268_1)).trans hx268_1
                                              replace p268 := eq_true p268
                                              replace q268 := eq_true q268
                                              go_wp2_with (first | ((with_reducible refine gate_callee (f := 50) rfl ?_); refine goesL_ (some 83) rfl rfl Try.func50 (by kernel_rfl) rfl #[.agg #[.int .i64 ((rd_T80 (rd_L2 l0_0 x6_3) x7_5).f0), .int .i64 ((rd_T80 (rd_L2 l0_0 x6_3) x7_5).f1)], .int .i64 (l0_0.length : Int)] rfl (by (try simp only [List.map_toArray, List.map_cons, List.map_nil]); first | done | rfl | (simp only [List.length_drop, List.length_take]; rfl)) ?_; (with_reducible refine (trellisref13_fits.calls k5 ((rd_T80 (rd_L2 l0_0 x6_3) x7_5).f0) ((rd_T80 (rd_L2 l0_0 x6_3) x7_5).f1) (l0_0.length : Int) false _ A30.out).mono ?_); rintro e w35 ⟨rfl, hb⟩; refine ⟨_, rfl, ?_⟩; have n0_ := Aside0.mk (blk_below (g := gb262) (o := .cells #[.slice (some ad263) l0_0.length c0_0, .slice (some ad264) l0_1.length c0_1] 25 (0, 0)) (by (with_reducible repeat (first | refine blk_drewN ?_ _ | refine blk_drew ?_ | refine blk_alloc ?_ _)); exact BK262.out) hb); have n1_ := Aside0.mk (below_step (by repeat (first | (with_reducible first | exact HB.out | apply below_alloc | apply pw_below_drewN | apply below_drew1 | refine below_set ?_ GE262.out) | exact HB.out)) hb); clear BK262; clear HB; have BK262 := n0_; have HB := n1_; clear n0_ n1_; (try clear hb); (try clear hb2); (try clear hk); (try clear hi)))
                                              go_ret
                                              exact ⟨by first | rfl | (simp [errW_none, errW_some] <;> rfl) | (simp [*, errW_none, errW_some] <;> rfl), by repeat (first | (with_reducible first | exact HB.out | apply below_alloc | apply pw_below_drewN | apply below_drew1 | refine below_set ?_ GE262.out) | exact HB.out)⟩
                                          · rw [if_neg c29] at H
                                            exact absurd H (by simp)
                                        · rw [if_neg c28] at H
                                          exact absurd H (by simp)
                                      · rw [if_neg c27] at H
                                        exact absurd H (by simp)
                                    · rw [if_neg c26] at H
                                      exact absurd H (by simp)
                                  · rw [if_neg c25] at H
                                    have c25b0 : decide (x7_5 < ((rd_L2 l0_0 0).length : Int)) = false := decide_eq_false c25
                                    clear c25
                                    have H' := Aside0.mk H
                                    clear H
                                    go_wp2
                                    go_loopg [9] k5 (fun kq v9 w' => ∃ (x9_6 : Int), v9 = .int .i64 x9_6 ∧ Aside0 (trellisref13_Shaped.l2 kq (l0_0.length : Int) ((rd_L2 l0_0 0).length : Int) ((rd_L3 l0_1 0).length : Int) x6_3 x9_6 l0_0 l0_1 = some r) ∧ Aside0 (kq ≤ k5) ∧ Aside0 (w'.heap[gb262]? = some (.cells #[(.slice (some ad263) l0_0.length c0_0), (.slice (some ad264) l0_1.length c0_1)] 25 (0, 0))) ∧ Aside0 (Below w.heap.size w w'))
                                    case atStart => exact ⟨(0), (by first | rfl | (simp; done) | (simp [*]; done)), H', ⟨Nat.le_refl _⟩, ⟨by (with_reducible repeat (first | refine blk_drewN ?_ _ | refine blk_drew ?_ | refine blk_alloc ?_ _)); exact BK262.out⟩, ⟨by repeat (first | (with_reducible first | exact HB.out | apply below_alloc | apply pw_below_drewN | apply below_drew1 | refine below_set ?_ GE262.out) | exact HB.out)⟩⟩
                                    case round =>
                                      clear H'
                                      try clear c1
                                      try clear c2
                                      try clear p2
                                      try clear q2
                                      try clear hx2
                                      try clear qi2
                                      try clear c3
                                      try clear c4
                                      try clear c5
                                      try clear c5b0
                                      try clear c5b1
                                      try clear c6
                                      try clear c6b0
                                      try clear c6b1
                                      try clear p6
                                      try clear c8
                                      try clear c9
                                      try clear c9b0
                                      try clear c9b1
                                      try clear c10
                                      try clear c10b0
                                      try clear c10b1
                                      try clear c13
                                      try clear c13b0
                                      try clear c13b1
                                      try clear c14
                                      try clear c14b0
                                      try clear c14b1
                                      try clear c15
                                      try clear c16
                                      try clear c16b0
                                      try clear c18
                                      try clear c18b0
                                      try clear c19
                                      try clear c19b0
                                      try clear c20
                                      try clear c20b0
                                      try clear c20b1
                                      try clear c20b2
                                      try clear c21
                                      try clear c21b0
                                      try clear c24
                                      try clear c25
                                      try clear c25b0
                                      try clear c26
                                      try clear c26b0
                                      try clear p26
                                      try clear q26
                                      try clear hx26
                                      try clear qi26
                                      try clear c27
                                      try clear c27b0
                                      try clear c28
                                      try clear c28b0
                                      try clear c29
                                      try clear c29b0
                                      try clear c31
                                      try clear hcz12_0
                                      try clear hcz12_1
                                      try clear hcz22_0
                                      try clear hcz22_1
                                      try clear hcz23_0
                                      try clear hcz23_1
                                      try clear hcz32_0
                                      try clear hcz32_1
                                      try clear hcz34_0
                                      try clear hcz34_1
                                      try clear hcz4_0
                                      try clear hcz4_1
                                      try clear hcz7_0
                                      try clear hcz7_1
                                      try clear hfz12_0
                                      try clear hfz12_1
                                      try clear hfz22_0
                                      try clear hfz22_1
                                      try clear hfz23_0
                                      try clear hfz23_1
                                      try clear hfz32_0
                                      try clear hfz32_1
                                      try clear hfz34_0
                                      try clear hfz34_1
                                      try clear hfz4_0
                                      try clear hfz4_1
                                      try clear hfz7_0
                                      try clear hfz7_1
                                      try clear hx263_0
                                      try clear hx264_0
                                      try clear hx265_0
                                      try clear hx266_0
                                      try clear hx267_0
                                      try clear hx268_0
                                      try clear hx268_1
                                      try clear p2
                                      try clear p263
                                      try clear p264
                                      try clear p265
                                      try clear p266
                                      try clear p267
                                      try clear p268
                                      try clear q2
                                      try clear q263
                                      try clear q264
                                      try clear q265
                                      try clear q266
                                      try clear q267
                                      try clear q268
                                      obtain ⟨x9_6, rfl, HA, HK6, BK262, HB⟩ := hrel
                                      cases gk with
                                      | zero => exact absurd HA.out (by simp [trellisref13_Shaped.l2])
                                      | succ k6 =>
                                        have H := HA.out
                                        clear HA
                                        simp only [trellisref13_Shaped.l2] at H
                                        by_cases c36 : x9_6 < ((rd_L3 l0_1 0).length : Int)
                                        · rw [if_pos c36] at H
                                          have c36b0 : decide (x9_6 < ((rd_L3 l0_1 0).length : Int)) = true := decide_eq_true c36
                                          clear c36
                                          by_cases c37 : 0 ≤ x6_3
                                          · rw [if_pos c37] at H
                                            have c37b0 : decide (0 ≤ x6_3) = true := decide_eq_true c37
                                            clear c37
                                            by_cases c38 : x6_3 < (l0_1.length : Int)
                                            · rw [if_pos c38] at H
                                              have c38b0 : decide (x6_3 < (l0_1.length : Int)) = true := decide_eq_true c38
                                              clear c38
                                              by_cases c39 : 0 ≤ x9_6
                                              · rw [if_pos c39] at H
                                                have c39b0 : decide (0 ≤ x9_6) = true := decide_eq_true c39
                                                clear c39
                                                by_cases c40 : x9_6 < ((rd_L3 l0_1 x6_3).length : Int)
                                                · rw [if_pos c40] at H
                                                  have c40b0 : decide (x9_6 < ((rd_L3 l0_1 x6_3).length : Int)) = true := decide_eq_true c40
                                                  clear c40
                                                  by_cases c41 : (rd (rd_L3 l0_1 x6_3) x9_6) < (-1)
                                                  · rw [if_pos c41] at H
                                                    have c41b0 : decide ((rd (rd_L3 l0_1 x6_3) x9_6) < (-1)) = true := decide_eq_true c41
                                                    clear c41
                                                    obtain rfl := Option.some.inj H
                                                    have hcz42_0 : wr.cell? ⟨gb262, 0, none⟩ = some (.slice (some ad263) l0_0.length c0_0) := (blk_cell BK262.out 0).trans rfl
                                                    have hcz42_1 : wr.cell? ⟨gb262, 1, none⟩ = some (.slice (some ad264) l0_1.length c0_1) := (blk_cell BK262.out 1).trans rfl
                                                    have hfz42_0 := blk_frozen BK262.out 0
                                                    have hfz42_1 := blk_frozen BK262.out 1
                                                    have p270 : 0 ≤ (x6_3 : Int) := of_decide_eq_true (by first | (with_reducible assumption) | assumption)
                                                    have q270 : x6_3 < (l0_1.length : Int) := of_decide_eq_true (by first | (with_reducible assumption) | assumption)
                                                    obtain ⟨ad270, A270_0, c270_0, e270, hx270_0, hl270_0, hi270_0⟩ := at_L3 HR0_1.out x6_3 p270 q270
                                                    obtain rfl : ad264 = ad270 := (by injection e270)
                                                    replace hx270_0 := (HB.out.cell (World.block_lt_of_cell? w _ hx270_0)).trans hx270_0
                                                    have HR270_0 := Aside0.mk hi270_0
                                                    have HC270_0 := Aside0.mk hl270_0
                                                    clear hi270_0 hl270_0
                                                    replace p270 := eq_true p270
                                                    replace q270 := eq_true q270
                                                    have p271 : 0 ≤ (x9_6 : Int) := of_decide_eq_true (by first | (with_reducible assumption) | assumption)
                                                    have q271 : x9_6 < ((rd_L3 l0_1 x6_3).length : Int) := of_decide_eq_true (by first | (with_reducible assumption) | assumption)
                                                    obtain ⟨ad271, e271, hx271_0⟩ := Kd.at_int HR270_0.out x9_6 p271 q271
                                                    cases e271
                                                    replace hx271_0 := (HB.out.cell (World.block_lt_of_cell? w _ hx271_0)).trans hx271_0
                                                    replace p271 := eq_true p271
                                                    replace q271 := eq_true q271
                                                    go_wp2
                                                    go_ret
                                                    exact ⟨by first | rfl | (simp [errW_none, errW_some] <;> rfl) | (simp [*, errW_none, errW_some] <;> rfl), by repeat (first | (with_reducible first | exact HB.out | apply below_alloc | apply pw_below_drewN | apply below_drew1 | refine below_set ?_ GE262.out) | exact HB.out)⟩
                                                  · rw [if_neg c41] at H
                                                    have c41b0 : decide ((rd (rd_L3 l0_1 x6_3) x9_6) < (-1)) = false := decide_eq_false c41
                                                    clear c41
                                                    by_cases c43 : (rd (rd_L3 l0_1 x6_3) x9_6) ≥ (l0_0.length : Int)
                                                    · rw [if_pos c43] at H
                                                      have c43b0 : decide ((l0_0.length : Int) ≤ (rd (rd_L3 l0_1 x6_3) x9_6)) = true := decide_eq_true c43
                                                      clear c43
                                                      obtain rfl := Option.some.inj H
                                                      have hcz44_0 : wr.cell? ⟨gb262, 0, none⟩ = some (.slice (some ad263) l0_0.length c0_0) := (blk_cell BK262.out 0).trans rfl
                                                      have hcz44_1 : wr.cell? ⟨gb262, 1, none⟩ = some (.slice (some ad264) l0_1.length c0_1) := (blk_cell BK262.out 1).trans rfl
                                                      have hfz44_0 := blk_frozen BK262.out 0
                                                      have hfz44_1 := blk_frozen BK262.out 1
                                                      have p270 : 0 ≤ (x6_3 : Int) := of_decide_eq_true (by first | (with_reducible assumption) | assumption)
                                                      have q270 : x6_3 < (l0_1.length : Int) := of_decide_eq_true (by first | (with_reducible assumption) | assumption)
                                                      obtain ⟨ad270, A270_0, c270_0, e270, hx270_0, hl270_0, hi270_0⟩ := at_L3 HR0_1.out x6_3 p270 q270
                                                      obtain rfl : ad264 = ad270 := (by injection e270)
                                                      replace hx270_0 := (HB.out.cell (World.block_lt_of_cell? w _ hx270_0)).trans hx270_0
                                                      have HR270_0 := Aside0.mk hi270_0
                                                      have HC270_0 := Aside0.mk hl270_0
                                                      clear hi270_0 hl270_0
                                                      replace p270 := eq_true p270
                                                      replace q270 := eq_true q270
                                                      have p271 : 0 ≤ (x9_6 : Int) := of_decide_eq_true (by first | (with_reducible assumption) | assumption)
                                                      have q271 : x9_6 < ((rd_L3 l0_1 x6_3).length : Int) := of_decide_eq_true (by first | (with_reducible assumption) | assumption)
                                                      obtain ⟨ad271, e271, hx271_0⟩ := Kd.at_int HR270_0.out x9_6 p271 q271
                                                      cases e271
                                                      replace hx271_0 := (HB.out.cell (World.block_lt_of_cell? w _ hx271_0)).trans hx271_0
                                                      replace p271 := eq_true p271
                                                      replace q271 := eq_true q271
                                                      have p272 : 0 ≤ (x6_3 : Int) := of_decide_eq_true (by first | (with_reducible assumption) | assumption)
                                                      have q272 : x6_3 < (l0_1.length : Int) := of_decide_eq_true (by first | (with_reducible assumption) | assumption)
                                                      obtain ⟨ad272, A272_0, c272_0, e272, hx272_0, hl272_0, hi272_0⟩ := at_L3 HR0_1.out x6_3 p272 q272
                                                      obtain rfl : ad264 = ad272 := (by injection e272)
                                                      replace hx272_0 := (HB.out.cell (World.block_lt_of_cell? w _ hx272_0)).trans hx272_0
                                                      have HR272_0 := Aside0.mk hi272_0
                                                      have HC272_0 := Aside0.mk hl272_0
                                                      clear hi272_0 hl272_0
                                                      replace p272 := eq_true p272
                                                      replace q272 := eq_true q272
                                                      have ea_ := Option.some.inj (hx270_0.symm.trans hx272_0)
                                                      injection ea_ with ea_ en_ ec_
                                                      subst ea_
                                                      subst ec_
                                                      clear en_
                                                      have p273 : 0 ≤ (x9_6 : Int) := of_decide_eq_true (by first | (with_reducible assumption) | assumption)
                                                      have q273 : x9_6 < ((rd_L3 l0_1 x6_3).length : Int) := of_decide_eq_true (by first | (with_reducible assumption) | assumption)
                                                      obtain ⟨ad273, e273, hx273_0⟩ := Kd.at_int HR272_0.out x9_6 p273 q273
                                                      cases e273
                                                      replace hx273_0 := (HB.out.cell (World.block_lt_of_cell? w _ hx273_0)).trans hx273_0
                                                      replace p273 := eq_true p273
                                                      replace q273 := eq_true q273
                                                      go_wp2
                                                      go_ret
                                                      exact ⟨by first | rfl | (simp [errW_none, errW_some] <;> rfl) | (simp [*, errW_none, errW_some] <;> rfl), by repeat (first | (with_reducible first | exact HB.out | apply below_alloc | apply pw_below_drewN | apply below_drew1 | refine below_set ?_ GE262.out) | exact HB.out)⟩
                                                    · rw [if_neg c43] at H
                                                      have c43b0 : decide ((l0_0.length : Int) ≤ (rd (rd_L3 l0_1 x6_3) x9_6)) = false := decide_eq_false c43
                                                      clear c43
                                                      have H' := Aside0.mk H
                                                      clear H
                                                      have hcz45_0 : wr.cell? ⟨gb262, 0, none⟩ = some (.slice (some ad263) l0_0.length c0_0) := (blk_cell BK262.out 0).trans rfl
                                                      have hcz45_1 : wr.cell? ⟨gb262, 1, none⟩ = some (.slice (some ad264) l0_1.length c0_1) := (blk_cell BK262.out 1).trans rfl
                                                      have hfz45_0 := blk_frozen BK262.out 0
                                                      have hfz45_1 := blk_frozen BK262.out 1
                                                      have p270 : 0 ≤ (x6_3 : Int) := of_decide_eq_true (by first | (with_reducible assumption) | assumption)
                                                      have q270 : x6_3 < (l0_1.length : Int) := of_decide_eq_true (by first | (with_reducible assumption) | assumption)
                                                      obtain ⟨ad270, A270_0, c270_0, e270, hx270_0, hl270_0, hi270_0⟩ := at_L3 HR0_1.out x6_3 p270 q270
                                                      obtain rfl : ad264 = ad270 := (by injection e270)
                                                      replace hx270_0 := (HB.out.cell (World.block_lt_of_cell? w _ hx270_0)).trans hx270_0
                                                      have HR270_0 := Aside0.mk hi270_0
                                                      have HC270_0 := Aside0.mk hl270_0
                                                      clear hi270_0 hl270_0
                                                      replace p270 := eq_true p270
                                                      replace q270 := eq_true q270
                                                      have p271 : 0 ≤ (x9_6 : Int) := of_decide_eq_true (by first | (with_reducible assumption) | assumption)
                                                      have q271 : x9_6 < ((rd_L3 l0_1 x6_3).length : Int) := of_decide_eq_true (by first | (with_reducible assumption) | assumption)
                                                      obtain ⟨ad271, e271, hx271_0⟩ := Kd.at_int HR270_0.out x9_6 p271 q271
                                                      cases e271
                                                      replace hx271_0 := (HB.out.cell (World.block_lt_of_cell? w _ hx271_0)).trans hx271_0
                                                      replace p271 := eq_true p271
                                                      replace q271 := eq_true q271
                                                      have p272 : 0 ≤ (x6_3 : Int) := of_decide_eq_true (by first | (with_reducible assumption) | assumption)
                                                      have q272 : x6_3 < (l0_1.length : Int) := of_decide_eq_true (by first | (with_reducible assumption) | assumption)
                                                      obtain ⟨ad272, A272_0, c272_0, e272, hx272_0, hl272_0, hi272_0⟩ := at_L3 HR0_1.out x6_3 p272 q272
                                                      obtain rfl : ad264 = ad272 := (by injection e272)
                                                      replace hx272_0 := (HB.out.cell (World.block_lt_of_cell? w _ hx272_0)).trans hx272_0
                                                      have HR272_0 := Aside0.mk hi272_0
                                                      have HC272_0 := Aside0.mk hl272_0
                                                      clear hi272_0 hl272_0
                                                      replace p272 := eq_true p272
                                                      replace q272 := eq_true q272
                                                      have ea_ := Option.some.inj (hx270_0.symm.trans hx272_0)
                                                      injection ea_ with ea_ en_ ec_
                                                      subst ea_
                                                      subst ec_
                                                      clear en_
                                                      have p273 : 0 ≤ (x9_6 : Int) := of_decide_eq_true (by first | (with_reducible assumption) | assumption)
                                                      have q273 : x9_6 < ((rd_L3 l0_1 x6_3).length : Int) := of_decide_eq_true (by first | (with_reducible assumption) | assumption)
                                                      obtain ⟨ad273, e273, hx273_0⟩ := Kd.at_int HR272_0.out x9_6 p273 q273
                                                      cases e273
                                                      replace hx273_0 := (HB.out.cell (World.block_lt_of_cell? w _ hx273_0)).trans hx273_0
                                                      replace p273 := eq_true p273
                                                      replace q273 := eq_true q273
                                                      go_wp2
                                                      go_roundg k6
                                                      case measure => have := HJ1.out; have := HJ10.out; have := HK3.out; have := HJ16.out; have := HK5.out; have := HK6.out; omega
                                                      case rel => exact ⟨(wrap64 (x9_6 + 1)), (by first | rfl | (simp; done) | (simp [*]; done)), H', ⟨by have := HJ1.out; have := HJ10.out; have := HK3.out; have := HJ16.out; have := HK5.out; have := HK6.out; omega⟩, ⟨by (with_reducible repeat (first | refine blk_drewN ?_ _ | refine blk_drew ?_ | refine blk_alloc ?_ _)); exact BK262.out⟩, ⟨by repeat (first | (with_reducible first | exact HB.out | apply below_alloc | apply pw_below_drewN | apply below_drew1 | refine below_set ?_ GE262.out) | exact HB.out)⟩⟩
                                                · rw [if_neg c40] at H
                                                  exact absurd H (by simp)
                                              · rw [if_neg c39] at H
                                                exact absurd H (by simp)
                                            · rw [if_neg c38] at H
                                              exact absurd H (by simp)
                                          · rw [if_neg c37] at H
                                            exact absurd H (by simp)
                                        · rw [if_neg c36] at H
                                          have c36b0 : decide (x9_6 < ((rd_L3 l0_1 0).length : Int)) = false := decide_eq_false c36
                                          clear c36
                                          have H' := Aside0.mk H
                                          clear H
                                          go_wp2
                                          go_roundg k6
                                          case measure => have := HJ1.out; have := HJ10.out; have := HK3.out; have := HJ16.out; have := HK5.out; have := HK6.out; omega
                                          case rel => exact ⟨(wrap64 (x6_3 + 1)), (by first | rfl | (simp; done) | (simp [*]; done)), H', ⟨by have := HJ1.out; have := HJ10.out; have := HK3.out; have := HJ16.out; have := HK5.out; have := HK6.out; omega⟩, ⟨by (with_reducible repeat (first | refine blk_drewN ?_ _ | refine blk_drew ?_ | refine blk_alloc ?_ _)); exact BK262.out⟩, ⟨by repeat (first | (with_reducible first | exact HB.out | apply below_alloc | apply pw_below_drewN | apply below_drew1 | refine below_set ?_ GE262.out) | exact HB.out)⟩⟩
                      · rw [if_neg c16] at H
                        have c16b0 : decide (x6_3 < (l0_0.length : Int)) = false := decide_eq_false c16
                        clear c16
                        obtain rfl := Option.some.inj H
                        go_wp2
                        go_ret
                        exact ⟨by first | rfl | (simp [errW_none, errW_some] <;> rfl) | (simp [*, errW_none, errW_some] <;> rfl), by repeat (first | (with_reducible first | exact HB.out | apply below_alloc | apply pw_below_drewN | apply below_drew1 | refine below_set ?_ GE262.out) | exact HB.out)⟩
          · rw [if_neg c10] at H
            exact absurd H (by simp)
        · rw [if_neg c9] at H
          exact absurd H (by simp)

end Go.Proofs.Ytcijanmckhlpiaa.PTableEncodes
