-- Texts of this seat, cut to what is used and merged (by shake.py).
import Derived.Test.YtcijanmckhlpiaaDoorSq4
import Derived.Test.YtcijanmckhlpiaaDoorSq19
set_option linter.unusedVariables false
set_option linter.unusedSimpArgs false
namespace Go.Proofs.YtcijanmckhlpiaaDoor.PTableBuilds
open Go.RowKit Go.Proofs.YtcijanmckhlpiaaDoorW.PrintWords Go.Proofs.YtcijanmckhlpiaaDoorW.PrintLast Go.Proofs.YtcijanmckhlpiaaDoorW.PrintMore
attribute [local go_sem] max2_int min2_int max_two min_two max_three min_three max_four min_four
attribute [local go_sem high] eqA93
mutual
def trellisref13_actions.j0 : Nat → List (S178) → Int → List (S93) → List (S112) → List (S115) → List (S77) → Option ((List (S93)))
 | 0, _, _, _, _, _, _ => none
 | k + 1, x1, x3, x9, x338000, x338001, x338002 => trellisref13_actions.l0 k x1 x3 x9 0 x338000 x338001 x338002
def trellisref13_actions.l0 : Nat → List (S178) → Int → List (S93) → Int → List (S112) → List (S115) → List (S77) → Option ((List (S93)))
 | 0, _, _, _, _, _, _, _ => none
 | k + 1, x1, x3, x9, x10, x338000, x338001, x338002 => if x10 < (x1.length : Int) then (if 0 ≤ x10 then (if ((zaq x1 x10).f2) = x3 then (if 0 ≤ ((zaq x1 x10).f0) then (if ((zaq x1 x10).f0) < (x338002.length : Int) then (trellisref13_actions.j2 k x1 x3 x9 x10 (decide (((zaq x1 x10).f1) < (((zal x338002 ((zaq x1 x10).f0)).f1).length : Int))) x338000 x338001 x338002 ((zaq x1 x10).f0) ((zaq x1 x10).f1) ((zaq x1 x10).f2)) else (none)) else (none)) else (trellisref13_actions.j2 k x1 x3 x9 x10 true x338000 x338001 x338002 ((zaq x1 x10).f0) ((zaq x1 x10).f1) ((zaq x1 x10).f2))) else (none)) else (some x9)
def trellisref13_actions.j2 : Nat → List (S178) → Int → List (S93) → Int → Bool → List (S112) → List (S115) → List (S77) → Int → Int → Int → Option ((List (S93)))
 | 0, _, _, _, _, _, _, _, _, _, _, _ => none
 | k + 1, x1, x3, x9, x10, x54, x338000, x338001, x338002, x345000, x345001, x345002 => if x54 = true then (trellisref13_actions.l0 k x1 x3 x9 (wrap64 (x10 + 1)) x338000 x338001 x338002) else (if x345000 = 0 then (trellisref13_actions.j3 k x1 x3 x9 x10 x338000 x338001 x338002 3 0) else (trellisref13_actions.j3 k x1 x3 x9 x10 x338000 x338001 x338002 2 x345000))
def trellisref13_actions.j3 : Nat → List (S178) → Int → List (S93) → Int → List (S112) → List (S115) → List (S77) → Int → Int → Option ((List (S93)))
 | 0, _, _, _, _, _, _, _, _, _ => none
 | k + 1, x1, x3, x9, x10, x338000, x338001, x338002, x347000, x347001 => trellisref13_actions.l1 k x1 x3 x9 x10 false 0 x338000 x338001 x338002 x347000 x347001
def trellisref13_actions.l1 : Nat → List (S178) → Int → List (S93) → Int → Bool → Int → List (S112) → List (S115) → List (S77) → Int → Int → Option ((List (S93)))
 | 0, _, _, _, _, _, _, _, _, _, _, _ => none
 | k + 1, x1, x3, x9, x10, x13, x14, x338000, x338001, x338002, x347000, x347001 => if x14 < (x9.length : Int) then (if x13 = true then (trellisref13_actions.l1 k x1 x3 x9 x10 true (wrap64 (x14 + 1)) x338000 x338001 x338002 x347000 x347001) else (if 0 ≤ x14 then (trellisref13_actions.l1 k x1 x3 x9 x10 (((rd_T93 x9 x14).f0) == x347000 && (((rd_T93 x9 x14).f1) == x347001)) (wrap64 (x14 + 1)) x338000 x338001 x338002 x347000 x347001) else (none))) else (if x13 = true then (trellisref13_actions.l0 k x1 x3 x9 (wrap64 (x10 + 1)) x338000 x338001 x338002) else (if x9.length < 8796093022208 then (trellisref13_actions.l0 k x1 x3 (x9 ++ [(⟨x347000, x347001⟩ : S93)]) (wrap64 (x10 + 1)) x338000 x338001 x338002) else (none)))
end
def trellisref13_actions.f (k : Nat) (l0_0 : List (S112)) (l0_1 : List (S115)) (l0_2 : List (S77)) (l1 : List (S178)) (l2 : List Int) (a3 : Int) : Option ((List (S93))) := if 0 ≤ a3 then (if a3 < (l2.length : Int) then (if (rd l2 a3) ≥ 0 then (if ([] : List (S93)).length < 8796093022208 then (trellisref13_actions.j0 k l1 a3 (([] : List (S93)) ++ [(⟨1, rd l2 a3⟩ : S93)]) l0_0 l0_1 l0_2) else (none)) else (trellisref13_actions.j0 k l1 a3 ([] : List (S93)) l0_0 l0_1 l0_2)) else (none)) else (none)
set_option maxHeartbeats 8000000 in
set_option maxRecDepth 100000 in
theorem trellisref13_actions.calls (k : Nat) (A0_0 : Option Addr) (c0_0 : Nat) (l0_0 : List (S112)) (A0_1 : Option Addr) (c0_1 : Nat) (l0_1 : List (S115)) (A0_2 : Option Addr) (c0_2 : Nat) (l0_2 : List (S77)) (A1 : Option Addr) (c1 : Nat) (l1 : List (S178)) (A2 : Option Addr) (c2 : Nat) (l2 : List Int) (a3 : Int) (r : List (S93)) (w : World) (hr0_0 : Kd.C k112 w A0_0 l0_0.length l0_0) (hc0_0 : l0_0.length ≤ c0_0) (hr0_1 : Kd.C k115 w A0_1 l0_1.length l0_1) (hc0_1 : l0_1.length ≤ c0_1) (hr0_2 : Kd.C k77 w A0_2 l0_2.length l0_2) (hc0_2 : l0_2.length ≤ c0_2) (hr1 : Kd.C k178 w A1 l1.length l1) (hc1 : l1.length ≤ c1) (hr2 : Kd.C (Kd.int .i64) w A2 l2.length l2) (hc2 : l2.length ≤ c2) (h : trellisref13_actions.f k l0_0 l0_1 l0_2 l1 l2 a3 = some r) :
  Calls Tryd.prog 43 #[.agg #[.slice A0_0 l0_0.length c0_0, .slice A0_1 l0_1.length c0_1, .slice A0_2 l0_2.length c0_2], .slice A1 l1.length c1, .slice A2 l2.length c2, .int .i64 a3] w fun e w' => ∃ v0_ : Value, e = .returned (v0_) ∧ Kd.R k93 93 w' w.heap.size (fun _ => True) v0_ r ∧ Below w.heap.size w w' := by
 have hu51 := Tryd.underlying51; have hu93 := Tryd.underlying93; have hu178 := Tryd.underlying178; have HR0_0 := zaj.mk hr0_0; have HC0_0 := zaj.mk hc0_0; clear hr0_0 hc0_0; have HR0_1 := zaj.mk hr0_1; have HC0_1 := zaj.mk hc0_1; clear hr0_1 hc0_1; have HR0_2 := zaj.mk hr0_2; have HC0_2 := zaj.mk hc0_2; clear hr0_2 hc0_2; have HR1 := zaj.mk hr1; have HC1 := zaj.mk hc1; clear hr1 hc1; have HR2 := zaj.mk hr2; have HC2 := zaj.mk hc2; clear hr2 hc2; have HB := zaj.mk (Below.refl w.heap.size w); have H : (if 0 ≤ a3 then (if a3 < (l2.length : Int) then (if (rd l2 a3) ≥ 0 then (if ([] : List (S93)).length < 8796093022208 then (trellisref13_actions.j0 k l1 a3 (([] : List (S93)) ++ [(⟨1, rd l2 a3⟩ : S93)]) l0_0 l0_1 l0_2) else (none)) else (trellisref13_actions.j0 k l1 a3 ([] : List (S93)) l0_0 l0_1 l0_2)) else (none)) else (none)) = some r := h
 clear h; by_cases c5 : 0 ≤ a3
 ·rw [if_pos c5] at H; have c5b0 : decide (0 ≤ a3) = true := decide_eq_true c5; clear c5; by_cases c6 : a3 < (l2.length : Int)
  ·rw [if_pos c6] at H; have c6b0 : decide (a3 < (l2.length : Int)) = true := decide_eq_true c6; clear c6; have HC7 := zaj.mk H; clear H
   go_enter Tryd.func43, Tryd.ntmps43
   go_upto_if 19 with (first | ((with_reducible refine zbg (N := 4) rfl ?_); (try (refine zaz (by rfl) ?_; dsimp only)); refine zbe ?hg (N := 4) ?hd (cs := #[.slice A0_0 l0_0.length c0_0, .slice A0_1 l0_1.length c0_1, .slice A0_2 l0_2.length c0_2]) (t := 51) ?hr ?_; (case hd => rfl); (case hg => rfl); (case hr => first | (go_simp; done) | (go_simp; rfl)); intro gb337 hg w8 hbox hb; have n0_ := zaj.mk (zam (by repeat (first | (with_reducible first | exact HB.out | apply zac | apply zab | apply below_drew1) | exact HB.out)) hb); have n1_ := zaj.mk (hbox); have n2_ := zaj.mk ((by rw [hg]; exact (zao (by repeat (first | (with_reducible first | exact HB.out | apply zac | apply zab | apply below_drew1) | exact HB.out))) : w.heap.size ≤ gb337)); have n3_ := zaj.mk ((by rw [hg]; exact (zao (by repeat (first | (with_reducible first | exact HB.out | apply zac | apply zab | apply below_drew1) | exact HB.out))) : w.heap.size ≤ gb337)); clear HB; have HB := n0_; have BK337 := n1_; have GW337 := n2_; have GE337 := n3_; clear n0_ n1_ n2_ n3_; clear hb hbox hg; have p338 : 0 ≤ (a3 : Int) := of_decide_eq_true (by first | (with_reducible assumption) | assumption); have q338 : a3 < (l2.length : Int) := of_decide_eq_true (by first | (with_reducible assumption) | assumption); obtain ⟨ad338, e338, hx338_0⟩ := Kd.at_int HR2.out a3 p338 q338; cases e338; replace hx338_0 := (HB.out.cell (World.block_lt_of_cell? w _ hx338_0)).trans hx338_0; replace p338 := eq_true p338; replace q338 := eq_true q338))
   repeat (go_quiet (first | ((with_reducible refine zbg (N := 4) rfl ?_); (try (refine zaz (by rfl) ?_; dsimp only)); refine zbe ?hg (N := 4) ?hd (cs := #[.slice A0_0 l0_0.length c0_0, .slice A0_1 l0_1.length c0_1, .slice A0_2 l0_2.length c0_2]) (t := 51) ?hr ?_; (case hd => rfl); (case hg => rfl); (case hr => first | (go_simp; done) | (go_simp; rfl)); intro gb337 hg w8 hbox hb; have n0_ := zaj.mk (zam (by repeat (first | (with_reducible first | exact HB.out | apply zac | apply zab | apply below_drew1) | exact HB.out)) hb); have n1_ := zaj.mk (hbox); have n2_ := zaj.mk ((by rw [hg]; exact (zao (by repeat (first | (with_reducible first | exact HB.out | apply zac | apply zab | apply below_drew1) | exact HB.out))) : w.heap.size ≤ gb337)); have n3_ := zaj.mk ((by rw [hg]; exact (zao (by repeat (first | (with_reducible first | exact HB.out | apply zac | apply zab | apply below_drew1) | exact HB.out))) : w.heap.size ≤ gb337)); clear HB; have HB := n0_; have BK337 := n1_; have GW337 := n2_; have GE337 := n3_; clear n0_ n1_ n2_ n3_; clear hb hbox hg; have p338 : 0 ≤ (a3 : Int) := of_decide_eq_true (by first | (with_reducible assumption) | assumption); have q338 : a3 < (l2.length : Int) := of_decide_eq_true (by first | (with_reducible assumption) | assumption); obtain ⟨ad338, e338, hx338_0⟩ := Kd.at_int HR2.out a3 p338 q338; cases e338; replace hx338_0 := (HB.out.cell (World.block_lt_of_cell? w _ hx338_0)).trans hx338_0; replace p338 := eq_true p338; replace q338 := eq_true q338)); go_upto_if 19 with (first | ((with_reducible refine zbg (N := 4) rfl ?_); (try (refine zaz (by rfl) ?_; dsimp only)); refine zbe ?hg (N := 4) ?hd (cs := #[.slice A0_0 l0_0.length c0_0, .slice A0_1 l0_1.length c0_1, .slice A0_2 l0_2.length c0_2]) (t := 51) ?hr ?_; (case hd => rfl); (case hg => rfl); (case hr => first | (go_simp; done) | (go_simp; rfl)); intro gb337 hg w8 hbox hb; have n0_ := zaj.mk (zam (by repeat (first | (with_reducible first | exact HB.out | apply zac | apply zab | apply below_drew1) | exact HB.out)) hb); have n1_ := zaj.mk (hbox); have n2_ := zaj.mk ((by rw [hg]; exact (zao (by repeat (first | (with_reducible first | exact HB.out | apply zac | apply zab | apply below_drew1) | exact HB.out))) : w.heap.size ≤ gb337)); have n3_ := zaj.mk ((by rw [hg]; exact (zao (by repeat (first | (with_reducible first | exact HB.out | apply zac | apply zab | apply below_drew1) | exact HB.out))) : w.heap.size ≤ gb337)); clear HB; have HB := n0_; have BK337 := n1_; have GW337 := n2_; have GE337 := n3_; clear n0_ n1_ n2_ n3_; clear hb hbox hg; have p338 : 0 ≤ (a3 : Int) := of_decide_eq_true (by first | (with_reducible assumption) | assumption); have q338 : a3 < (l2.length : Int) := of_decide_eq_true (by first | (with_reducible assumption) | assumption); obtain ⟨ad338, e338, hx338_0⟩ := Kd.at_int HR2.out a3 p338 q338; cases e338; replace hx338_0 := (HB.out.cell (World.block_lt_of_cell? w _ hx338_0)).trans hx338_0; replace p338 := eq_true p338; replace q338 := eq_true q338)))
   (try simp only [Act.put, List.setIfInBounds_toArray, List.set_cons_zero, List.set_cons_succ])
   go_cut [9] (fun v9 wc => ∃ (kq : Nat) (x9_6 : List (S93)), zaj (trellisref13_actions.j0 kq l1 a3 x9_6 l0_0 l0_1 l0_2 = some r) ∧ zaj (kq ≤ k) ∧ zaj (Kd.R k93 93 wc w.heap.size (fun _ => True) v9 x9_6) ∧ zaj (wc.heap[gb337]? = some (.cells #[(.slice A0_0 l0_0.length c0_0), (.slice A0_1 l0_1.length c0_1), (.slice A0_2 l0_2.length c0_2)] 51 (0, 0))) ∧ zaj (Below w.heap.size w wc))
   case first =>
    have H := HC7.out; clear HC7; by_cases c9 : (rd l2 a3) ≥ 0
    ·rw [if_pos c9] at H; have c9b0 : decide (0 ≤ (rd l2 a3)) = true := decide_eq_true c9; clear c9
     (first | rw [c9b0] | (simp only [i64_w, i32_w]; rw [c9b0]) | skip)
     by_cases c10 : ([] : List (S93)).length < 8796093022208
     ·rw [if_pos c10] at H; have LMc10 := zaj.mk c10; clear c10; obtain ⟨y340, hy340⟩ : ∃ y_ : List (S93), y_ = (([] : List (S93)) ++ [(⟨1, rd l2 a3⟩ : S93)]) := ⟨_, rfl⟩; replace H : (trellisref13_actions.j0 k l1 a3 y340 l0_0 l0_1 l0_2) = some r := by first | (rw [hy340]; with_reducible exact H) | (have H2_ := (Option.bind_some _ _).symm.trans H; rw [hy340]; with_reducible exact H2_) | (have H2_ := (Option.bind_some _ _).symm.trans H; with_reducible exact H2_) | with_reducible exact H | (rw [hy340]; exact H) | exact H
      have Ny340 := zaj.mk hy340; clear hy340; have H' := zaj.mk H; clear H; have p339 : 0 ≤ (a3 : Int) := of_decide_eq_true (by first | (with_reducible assumption) | assumption)
      have q339 : a3 < (l2.length : Int) := of_decide_eq_true (by first | (with_reducible assumption) | assumption)
      obtain ⟨ad339, e339, hx339_0⟩ := Kd.at_int HR2.out a3 p339 q339; obtain rfl : ad338 = ad339 := (by injection e339)
      replace hx339_0 := (HB.out.cell (World.block_lt_of_cell? w _ hx339_0)).trans hx339_0; replace p339 := eq_true p339; replace q339 := eq_true q339
      go_wp2_with (first | ((with_reducible refine zay (b := .append) (xs := #[.tmp 20, .tmp 26]) rfl ?_); (try (refine zaz (by rfl) ?_; dsimp only)); at_builtin; refine Kd.R_append k93 (w0 := w) w.heap.size rfl (.tmp 20) (.tmp 26) 90 93 (.agg #[(.int .i64 0), (.int .i64 0)]) 16 rfl Tryd.underlying90 info93 rfl (by decide) (by omega) (.slice none 0 0) ([] : List (S93)) (⟨1, rd l2 a3⟩ : S93) [.int .i64 1, .int .i64 (rd l2 a3)] (fun _ => True) (fun _ => False) rfl rfl ?aP (fun _ hk => hk.elim) ?aF ?aO ?aB ?aS ?aL ?_; (case aP => exact k93_mkM _ _ _ (⟨1, rd l2 a3⟩ : S93)); (case aB => exact (by repeat (first | (with_reducible first | exact HB.out | apply zac | apply zab | apply below_drew1 | refine zaf ?_ GE337.out) | exact HB.out))); (case aF => exact (fun _ _ => trivial)); (case aO => exact ((Kd.R_nil _ _ _ _ (fun _ => True)))); (case aS => exact (zao (by repeat (first | (with_reducible first | exact HB.out | apply zac | apply zab | apply below_drew1 | refine zaf ?_ GE337.out) | exact HB.out)))); (case aL => have := LMc10.out; omega); intro v341 w11 ho hb hg hat; rw [← Ny340.out] at ho; have n0_ := zaj.mk (zas (g := gb337) (o := .cells #[.slice A0_0 l0_0.length c0_0, .slice A0_1 l0_1.length c0_1, .slice A0_2 l0_2.length c0_2] 51 (0, 0)) (by (with_reducible repeat (first | apply zai | apply zah | apply zad)); exact BK337.out) hg (by simp [Value.ownBlock])); have n1_ := zaj.mk (hb); have n2_ := zaj.mk (ho); clear BK337; clear HB; have BK337 := n0_; have HB := n1_; have HO342 := n2_; clear n0_ n1_ n2_; clear ho hb hg hat))
      repeat (go_quiet (first | ((with_reducible refine zay (b := .append) (xs := #[.tmp 20, .tmp 26]) rfl ?_); (try (refine zaz (by rfl) ?_; dsimp only)); at_builtin; refine Kd.R_append k93 (w0 := w) w.heap.size rfl (.tmp 20) (.tmp 26) 90 93 (.agg #[(.int .i64 0), (.int .i64 0)]) 16 rfl Tryd.underlying90 info93 rfl (by decide) (by omega) (.slice none 0 0) ([] : List (S93)) (⟨1, rd l2 a3⟩ : S93) [.int .i64 1, .int .i64 (rd l2 a3)] (fun _ => True) (fun _ => False) rfl rfl ?aP (fun _ hk => hk.elim) ?aF ?aO ?aB ?aS ?aL ?_; (case aP => exact k93_mkM _ _ _ (⟨1, rd l2 a3⟩ : S93)); (case aB => exact (by repeat (first | (with_reducible first | exact HB.out | apply zac | apply zab | apply below_drew1 | refine zaf ?_ GE337.out) | exact HB.out))); (case aF => exact (fun _ _ => trivial)); (case aO => exact ((Kd.R_nil _ _ _ _ (fun _ => True)))); (case aS => exact (zao (by repeat (first | (with_reducible first | exact HB.out | apply zac | apply zab | apply below_drew1 | refine zaf ?_ GE337.out) | exact HB.out)))); (case aL => have := LMc10.out; omega); intro v341 w11 ho hb hg hat; rw [← Ny340.out] at ho; have n0_ := zaj.mk (zas (g := gb337) (o := .cells #[.slice A0_0 l0_0.length c0_0, .slice A0_1 l0_1.length c0_1, .slice A0_2 l0_2.length c0_2] 51 (0, 0)) (by (with_reducible repeat (first | apply zai | apply zah | apply zad)); exact BK337.out) hg (by simp [Value.ownBlock])); have n1_ := zaj.mk (hb); have n2_ := zaj.mk (ho); clear BK337; clear HB; have BK337 := n0_; have HB := n1_; have HO342 := n2_; clear n0_ n1_ n2_; clear ho hb hg hat)); try go_wp2_with (first | ((with_reducible refine zay (b := .append) (xs := #[.tmp 20, .tmp 26]) rfl ?_); (try (refine zaz (by rfl) ?_; dsimp only)); at_builtin; refine Kd.R_append k93 (w0 := w) w.heap.size rfl (.tmp 20) (.tmp 26) 90 93 (.agg #[(.int .i64 0), (.int .i64 0)]) 16 rfl Tryd.underlying90 info93 rfl (by decide) (by omega) (.slice none 0 0) ([] : List (S93)) (⟨1, rd l2 a3⟩ : S93) [.int .i64 1, .int .i64 (rd l2 a3)] (fun _ => True) (fun _ => False) rfl rfl ?aP (fun _ hk => hk.elim) ?aF ?aO ?aB ?aS ?aL ?_; (case aP => exact k93_mkM _ _ _ (⟨1, rd l2 a3⟩ : S93)); (case aB => exact (by repeat (first | (with_reducible first | exact HB.out | apply zac | apply zab | apply below_drew1 | refine zaf ?_ GE337.out) | exact HB.out))); (case aF => exact (fun _ _ => trivial)); (case aO => exact ((Kd.R_nil _ _ _ _ (fun _ => True)))); (case aS => exact (zao (by repeat (first | (with_reducible first | exact HB.out | apply zac | apply zab | apply below_drew1 | refine zaf ?_ GE337.out) | exact HB.out)))); (case aL => have := LMc10.out; omega); intro v341 w11 ho hb hg hat; rw [← Ny340.out] at ho; have n0_ := zaj.mk (zas (g := gb337) (o := .cells #[.slice A0_0 l0_0.length c0_0, .slice A0_1 l0_1.length c0_1, .slice A0_2 l0_2.length c0_2] 51 (0, 0)) (by (with_reducible repeat (first | apply zai | apply zah | apply zad)); exact BK337.out) hg (by simp [Value.ownBlock])); have n1_ := zaj.mk (hb); have n2_ := zaj.mk (ho); clear BK337; clear HB; have BK337 := n0_; have HB := n1_; have HO342 := n2_; clear n0_ n1_ n2_; clear ho hb hg hat)))
      go_meet
      case rel => exact ⟨_, (y340), H', ⟨by first | omega | exact Nat.le_refl _⟩, ⟨by (with_reducible repeat (first | apply Kd.zbk | apply Kd.R_drewN | apply Kd.R_drew)); exact HO342.out⟩, ⟨by (with_reducible repeat (first | apply zai | apply zah | apply zad)); exact BK337.out⟩, ⟨by repeat (first | (with_reducible first | exact HB.out | apply zac | apply zab | apply below_drew1 | refine zaf ?_ GE337.out) | exact HB.out)⟩⟩
     ·rw [if_neg c10] at H; exact absurd H (by simp)
    ·rw [if_neg c9] at H; have c9b0 : decide (0 ≤ (rd l2 a3)) = false := decide_eq_false c9; clear c9
     (first | rw [c9b0] | (simp only [i64_w, i32_w]; rw [c9b0]) | skip)
     have H' := zaj.mk H; clear H; go_wp2
     repeat (go_quiet (fail); try go_wp2)
     go_meet
     case rel => exact ⟨_, (([] : List (S93))), H', ⟨by first | omega | exact Nat.le_refl _⟩, ⟨by first | exact Kd.R_nil _ _ _ _ _ | exact Kd.N_nil _ _ _ _ _ | exact Kd.V_nil _ _ _ _ _ | exact Kd.Q_nil _ _ _ _ _ | exact Kd.S_nil _ _ _ _ _⟩, ⟨by (with_reducible repeat (first | apply zai | apply zah | apply zad)); exact BK337.out⟩, ⟨by repeat (first | (with_reducible first | exact HB.out | apply zac | apply zab | apply below_drew1 | refine zaf ?_ GE337.out) | exact HB.out)⟩⟩
   case rest =>
    clear HC7
    try clear c1
    try clear c2
    try clear p2
    try clear p3
    try clear q3
    try clear hx3
    try clear c4
    try clear c5
    try clear c5b0
    try clear c6
    try clear c6b0
    try clear c9
    try clear c9b0
    try clear c10
    try clear hx338_0
    try clear hx339_0
    try clear p338
    try clear p339
    try clear q338
    try clear q339
    obtain ⟨kq, x9_6, HA, HJ6, HO_9, BK337, HB⟩ := hcut; cases kq with
    | zero => exact absurd HA.out (by simp [trellisref13_actions.j0])
    | succ kj6 =>
     have H := HA.out; clear HA; simp only [trellisref13_actions.j0] at H; have H' := zaj.mk H; clear H; go_wp2
     repeat (go_quiet (fail); try go_wp2)
     go_loopg [9, 10] kj6 (fun kq v9 v10 w' => ∃ (x9_2 : List (S93)) (x10_2 : Int), v10 = .int .i64 x10_2 ∧ zaj (trellisref13_actions.l0 kq l1 a3 x9_2 x10_2 l0_0 l0_1 l0_2 = some r) ∧ zaj (kq ≤ kj6) ∧ zaj (Kd.R k93 93 w' w.heap.size (fun _ => True) v9 x9_2) ∧ zaj (w'.heap[gb337]? = some (.cells #[(.slice A0_0 l0_0.length c0_0), (.slice A0_1 l0_1.length c0_1), (.slice A0_2 l0_2.length c0_2)] 51 (0, 0))) ∧ zaj (Below w.heap.size w w'))
     case atStart => exact ⟨(x9_6), (0), (by first | rfl | (simp; done) | (simp [*]; done)), H', ⟨Nat.le_refl _⟩, ⟨by (with_reducible repeat (first | apply Kd.zbk | apply Kd.R_drewN | apply Kd.R_drew)); exact HO_9.out⟩, ⟨by (with_reducible repeat (first | apply zai | apply zah | apply zad)); exact BK337.out⟩, ⟨by repeat (first | (with_reducible first | exact HB.out | apply zac | apply zab | apply below_drew1 | refine zaf ?_ GE337.out) | exact HB.out)⟩⟩
     case round =>
      clear H'
      try clear c1
      try clear c2
      try clear p2
      try clear p3
      try clear q3
      try clear hx3
      try clear c4
      try clear c5
      try clear c5b0
      try clear c6
      try clear c6b0
      try clear c9
      try clear c9b0
      try clear c10
      try clear hx338_0
      try clear hx339_0
      try clear p2
      try clear p3
      try clear p338
      try clear p339
      try clear q3
      try clear q338
      try clear q339
      obtain ⟨x9_2, x10_2, rfl, HA, HK2, HO_9, BK337, HB⟩ := hrel; cases gk with
      | zero => exact absurd HA.out (by simp [trellisref13_actions.l0])
      | succ k2 =>
       have H := HA.out; clear HA; simp only [trellisref13_actions.l0] at H; by_cases c12 : x10_2 < (l1.length : Int)
       ·rw [if_pos c12] at H; have c12b0 : decide (x10_2 < (l1.length : Int)) = true := decide_eq_true c12; clear c12; by_cases c13 : 0 ≤ x10_2
        ·rw [if_pos c13] at H; have c13b0 : decide (0 ≤ x10_2) = true := decide_eq_true c13; clear c13; have HC14 := zaj.mk H; clear H; have p343 : 0 ≤ (x10_2 : Int) := of_decide_eq_true (by first | (with_reducible assumption) | assumption)
         have q343 : x10_2 < (l1.length : Int) := of_decide_eq_true (by first | (with_reducible assumption) | assumption)
         obtain ⟨ad343, e343, hx343_0, hx343_1, hx343_2⟩ := at_T178 HR1.out x10_2 p343 q343; cases e343; replace hx343_0 := (HB.out.cell (World.block_lt_of_cell? w _ hx343_0)).trans hx343_0; replace hx343_1 := (HB.out.cell (World.block_lt_of_cell? w _ hx343_1)).trans hx343_1; replace hx343_2 := (HB.out.cell (World.block_lt_of_cell? w _ hx343_2)).trans hx343_2; replace p343 := eq_true p343; replace q343 := eq_true q343
         go_upto_region 8 with (first | ((with_reducible refine zbg (N := 11) rfl ?_); (try (refine zaz (by rfl) ?_; dsimp only)); refine zbe ?hg (N := 11) ?hd (cs := #[.int .i64 0, .int .i64 0, .int .i64 0]) (t := 178) ?hr ?_; (case hd => rfl); (case hg => rfl); (case hr => first | (go_simp; done) | (go_simp; rfl)); intro gb344 hg w15 hbox hb; have n0_ := zaj.mk (Kd.zbf (by (with_reducible repeat (first | apply Kd.zbk | apply Kd.R_drewN | apply Kd.R_drew)); exact HO_9.out) hb); have n1_ := zaj.mk (zak (g := gb337) (o := .cells #[.slice A0_0 l0_0.length c0_0, .slice A0_1 l0_1.length c0_1, .slice A0_2 l0_2.length c0_2] 51 (0, 0)) (by (with_reducible repeat (first | apply zai | apply zah | apply zad)); exact BK337.out) hb); have n2_ := zaj.mk (zam (by repeat (first | (with_reducible first | exact HB.out | apply zac | apply zab | apply below_drew1 | refine zaf ?_ GE337.out) | exact HB.out)) hb); have n3_ := zaj.mk (hbox); have n4_ := zaj.mk ((by rw [hg]; exact (zao (by repeat (first | (with_reducible first | exact HB.out | apply zac | apply zab | apply below_drew1 | refine zaf ?_ GE337.out) | exact HB.out))) : w.heap.size ≤ gb344)); have n5_ := zaj.mk ((by rw [hg]; exact (zao (by repeat (first | (with_reducible first | exact HB.out | apply zac | apply zab | apply below_drew1 | refine zaf ?_ GE337.out) | exact HB.out))) : w.heap.size ≤ gb344)); have n6_ := zaj.mk ((by rw [hg]; exact Nat.ne_of_lt (zba (g := gb337) (o := .cells #[.slice A0_0 l0_0.length c0_0, .slice A0_1 l0_1.length c0_1, .slice A0_2 l0_2.length c0_2] 51 (0, 0)) (by (with_reducible repeat (first | apply zai | apply zah | apply zad)); exact BK337.out)) : gb337 ≠ gb344)); have n7_ := zaj.mk ((by rw [hg]; exact Nat.ne_of_gt (zba (g := gb337) (o := .cells #[.slice A0_0 l0_0.length c0_0, .slice A0_1 l0_1.length c0_1, .slice A0_2 l0_2.length c0_2] 51 (0, 0)) (by (with_reducible repeat (first | apply zai | apply zah | apply zad)); exact BK337.out)) : gb344 ≠ gb337)); clear HO_9; clear BK337; clear HB; have HO_9 := n0_; have BK337 := n1_; have HB := n2_; have BK344 := n3_; have GW344 := n4_; have GE344 := n5_; have NB337_344 := n6_; have NB344_337 := n7_; clear n0_ n1_ n2_ n3_ n4_ n5_ n6_ n7_; clear hb hbox hg; have hnb16 := NB344_337.out; have hnc16 := NB337_344.out; have hcz17_0 : w15.cell? ⟨gb344, 0, none⟩ = some (.int .i64 0) := (zaa BK344.out 0).trans rfl; have hcz17_1 : w15.cell? ⟨gb344, 1, none⟩ = some (.int .i64 0) := (zaa BK344.out 1).trans rfl; have hcz17_2 : w15.cell? ⟨gb344, 2, none⟩ = some (.int .i64 0) := (zaa BK344.out 2).trans rfl; have hfz17_0 := zae BK344.out 0; have hfz17_1 := zae BK344.out 1; have hfz17_2 := zae BK344.out 2))
         repeat (go_quiet (first | ((with_reducible refine zbg (N := 11) rfl ?_); (try (refine zaz (by rfl) ?_; dsimp only)); refine zbe ?hg (N := 11) ?hd (cs := #[.int .i64 0, .int .i64 0, .int .i64 0]) (t := 178) ?hr ?_; (case hd => rfl); (case hg => rfl); (case hr => first | (go_simp; done) | (go_simp; rfl)); intro gb344 hg w15 hbox hb; have n0_ := zaj.mk (Kd.zbf (by (with_reducible repeat (first | apply Kd.zbk | apply Kd.R_drewN | apply Kd.R_drew)); exact HO_9.out) hb); have n1_ := zaj.mk (zak (g := gb337) (o := .cells #[.slice A0_0 l0_0.length c0_0, .slice A0_1 l0_1.length c0_1, .slice A0_2 l0_2.length c0_2] 51 (0, 0)) (by (with_reducible repeat (first | apply zai | apply zah | apply zad)); exact BK337.out) hb); have n2_ := zaj.mk (zam (by repeat (first | (with_reducible first | exact HB.out | apply zac | apply zab | apply below_drew1 | refine zaf ?_ GE337.out) | exact HB.out)) hb); have n3_ := zaj.mk (hbox); have n4_ := zaj.mk ((by rw [hg]; exact (zao (by repeat (first | (with_reducible first | exact HB.out | apply zac | apply zab | apply below_drew1 | refine zaf ?_ GE337.out) | exact HB.out))) : w.heap.size ≤ gb344)); have n5_ := zaj.mk ((by rw [hg]; exact (zao (by repeat (first | (with_reducible first | exact HB.out | apply zac | apply zab | apply below_drew1 | refine zaf ?_ GE337.out) | exact HB.out))) : w.heap.size ≤ gb344)); have n6_ := zaj.mk ((by rw [hg]; exact Nat.ne_of_lt (zba (g := gb337) (o := .cells #[.slice A0_0 l0_0.length c0_0, .slice A0_1 l0_1.length c0_1, .slice A0_2 l0_2.length c0_2] 51 (0, 0)) (by (with_reducible repeat (first | apply zai | apply zah | apply zad)); exact BK337.out)) : gb337 ≠ gb344)); have n7_ := zaj.mk ((by rw [hg]; exact Nat.ne_of_gt (zba (g := gb337) (o := .cells #[.slice A0_0 l0_0.length c0_0, .slice A0_1 l0_1.length c0_1, .slice A0_2 l0_2.length c0_2] 51 (0, 0)) (by (with_reducible repeat (first | apply zai | apply zah | apply zad)); exact BK337.out)) : gb344 ≠ gb337)); clear HO_9; clear BK337; clear HB; have HO_9 := n0_; have BK337 := n1_; have HB := n2_; have BK344 := n3_; have GW344 := n4_; have GE344 := n5_; have NB337_344 := n6_; have NB344_337 := n7_; clear n0_ n1_ n2_ n3_ n4_ n5_ n6_ n7_; clear hb hbox hg; have hnb16 := NB344_337.out; have hnc16 := NB337_344.out; have hcz17_0 : w15.cell? ⟨gb344, 0, none⟩ = some (.int .i64 0) := (zaa BK344.out 0).trans rfl; have hcz17_1 : w15.cell? ⟨gb344, 1, none⟩ = some (.int .i64 0) := (zaa BK344.out 1).trans rfl; have hcz17_2 : w15.cell? ⟨gb344, 2, none⟩ = some (.int .i64 0) := (zaa BK344.out 2).trans rfl; have hfz17_0 := zae BK344.out 0; have hfz17_1 := zae BK344.out 1; have hfz17_2 := zae BK344.out 2)); go_upto_region 8 with (first | ((with_reducible refine zbg (N := 11) rfl ?_); (try (refine zaz (by rfl) ?_; dsimp only)); refine zbe ?hg (N := 11) ?hd (cs := #[.int .i64 0, .int .i64 0, .int .i64 0]) (t := 178) ?hr ?_; (case hd => rfl); (case hg => rfl); (case hr => first | (go_simp; done) | (go_simp; rfl)); intro gb344 hg w15 hbox hb; have n0_ := zaj.mk (Kd.zbf (by (with_reducible repeat (first | apply Kd.zbk | apply Kd.R_drewN | apply Kd.R_drew)); exact HO_9.out) hb); have n1_ := zaj.mk (zak (g := gb337) (o := .cells #[.slice A0_0 l0_0.length c0_0, .slice A0_1 l0_1.length c0_1, .slice A0_2 l0_2.length c0_2] 51 (0, 0)) (by (with_reducible repeat (first | apply zai | apply zah | apply zad)); exact BK337.out) hb); have n2_ := zaj.mk (zam (by repeat (first | (with_reducible first | exact HB.out | apply zac | apply zab | apply below_drew1 | refine zaf ?_ GE337.out) | exact HB.out)) hb); have n3_ := zaj.mk (hbox); have n4_ := zaj.mk ((by rw [hg]; exact (zao (by repeat (first | (with_reducible first | exact HB.out | apply zac | apply zab | apply below_drew1 | refine zaf ?_ GE337.out) | exact HB.out))) : w.heap.size ≤ gb344)); have n5_ := zaj.mk ((by rw [hg]; exact (zao (by repeat (first | (with_reducible first | exact HB.out | apply zac | apply zab | apply below_drew1 | refine zaf ?_ GE337.out) | exact HB.out))) : w.heap.size ≤ gb344)); have n6_ := zaj.mk ((by rw [hg]; exact Nat.ne_of_lt (zba (g := gb337) (o := .cells #[.slice A0_0 l0_0.length c0_0, .slice A0_1 l0_1.length c0_1, .slice A0_2 l0_2.length c0_2] 51 (0, 0)) (by (with_reducible repeat (first | apply zai | apply zah | apply zad)); exact BK337.out)) : gb337 ≠ gb344)); have n7_ := zaj.mk ((by rw [hg]; exact Nat.ne_of_gt (zba (g := gb337) (o := .cells #[.slice A0_0 l0_0.length c0_0, .slice A0_1 l0_1.length c0_1, .slice A0_2 l0_2.length c0_2] 51 (0, 0)) (by (with_reducible repeat (first | apply zai | apply zah | apply zad)); exact BK337.out)) : gb344 ≠ gb337)); clear HO_9; clear BK337; clear HB; have HO_9 := n0_; have BK337 := n1_; have HB := n2_; have BK344 := n3_; have GW344 := n4_; have GE344 := n5_; have NB337_344 := n6_; have NB344_337 := n7_; clear n0_ n1_ n2_ n3_ n4_ n5_ n6_ n7_; clear hb hbox hg; have hnb16 := NB344_337.out; have hnc16 := NB337_344.out; have hcz17_0 : w15.cell? ⟨gb344, 0, none⟩ = some (.int .i64 0) := (zaa BK344.out 0).trans rfl; have hcz17_1 : w15.cell? ⟨gb344, 1, none⟩ = some (.int .i64 0) := (zaa BK344.out 1).trans rfl; have hcz17_2 : w15.cell? ⟨gb344, 2, none⟩ = some (.int .i64 0) := (zaa BK344.out 2).trans rfl; have hfz17_0 := zae BK344.out 0; have hfz17_1 := zae BK344.out 1; have hfz17_2 := zae BK344.out 2)))
         (try simp only [Act.put, List.setIfInBounds_toArray, List.set_cons_zero, List.set_cons_succ])
         go_cut [54] (fun v54 wc => ∃ (kq : Nat) (x54_13 : Bool), v54 = .bool x54_13 ∧ zaj (trellisref13_actions.j2 kq l1 a3 x9_2 x10_2 x54_13 l0_0 l0_1 l0_2 ((zaq l1 x10_2).f0) ((zaq l1 x10_2).f1) ((zaq l1 x10_2).f2) = some r) ∧ zaj (kq ≤ k2) ∧ zaj (Kd.R k93 93 wc w.heap.size (fun _ => True) u9 x9_2) ∧ zaj (wc.heap[gb337]? = some (.cells #[(.slice A0_0 l0_0.length c0_0), (.slice A0_1 l0_1.length c0_1), (.slice A0_2 l0_2.length c0_2)] 51 (0, 0))) ∧ zaj (wc.heap[gb344]? = some (.cells #[.int .i64 ((zaq l1 x10_2).f0), .int .i64 ((zaq l1 x10_2).f1), .int .i64 ((zaq l1 x10_2).f2)] 178 (0, 0))) ∧ zaj (Below w.heap.size w wc))
         case first =>
          have H := HC14.out; clear HC14; by_cases c18 : ((zaq l1 x10_2).f2) = a3
          ·rw [if_pos c18] at H; have c18b0 : (((zaq l1 x10_2).f2) == a3) = true := beq_iff_eq.mpr c18; have c18b1 : (((zaq l1 x10_2).f2) != a3) = false := bne_eq_false_iff_eq.mpr c18; clear c18
           (first | rw [c18b0] | (simp only [i64_w, i32_w]; rw [c18b0]) | skip)
           by_cases c19 : 0 ≤ ((zaq l1 x10_2).f0)
           ·rw [if_pos c19] at H; have c19b0 : decide (0 ≤ ((zaq l1 x10_2).f0)) = true := decide_eq_true c19; clear c19; by_cases c20 : ((zaq l1 x10_2).f0) < (l0_2.length : Int)
            ·rw [if_pos c20] at H; have c20b0 : decide (((zaq l1 x10_2).f0) < (l0_2.length : Int)) = true := decide_eq_true c20; clear c20; have H' := zaj.mk H; clear H; have hnb21 := NB344_337.out; have hnc21 := NB337_344.out; have hcz22_0 : w15.cell? ⟨gb344, 0, none⟩ = some (.int .i64 0) := (zaa BK344.out 0).trans rfl; have hcz22_1 : w15.cell? ⟨gb344, 1, none⟩ = some (.int .i64 0) := (zaa BK344.out 1).trans rfl; have hcz22_2 : w15.cell? ⟨gb344, 2, none⟩ = some (.int .i64 0) := (zaa BK344.out 2).trans rfl; have hfz22_0 := zae BK344.out 0; have hfz22_1 := zae BK344.out 1; have hfz22_2 := zae BK344.out 2; have hcz23_0 : w15.cell? ⟨gb337, 0, none⟩ = some (.slice A0_0 l0_0.length c0_0) := (zaa BK337.out 0).trans rfl; have hcz23_1 : w15.cell? ⟨gb337, 1, none⟩ = some (.slice A0_1 l0_1.length c0_1) := (zaa BK337.out 1).trans rfl; have hcz23_2 : w15.cell? ⟨gb337, 2, none⟩ = some (.slice A0_2 l0_2.length c0_2) := (zaa BK337.out 2).trans rfl; have hfz23_0 := zae BK337.out 0; have hfz23_1 := zae BK337.out 1; have hfz23_2 := zae BK337.out 2; have p345 : 0 ≤ (((zaq l1 x10_2).f0) : Int) := of_decide_eq_true (by first | (with_reducible assumption) | assumption)
             have q345 : ((zaq l1 x10_2).f0) < (l0_2.length : Int) := of_decide_eq_true (by first | (with_reducible assumption) | assumption)
             obtain ⟨ad345, A345_1, c345_1, e345, hx345_0, hx345_1, hl345_1, hi345_1⟩ := at_T77 HR0_2.out ((zaq l1 x10_2).f0) p345 q345; cases e345; have hn345_0 : ad345.block ≠ gb344 := Nat.ne_of_lt (Nat.lt_of_lt_of_le (by have := World.block_lt_of_cell? _ _ hx345_0; first | rwa [add_block] at this | exact this) GW344.out)
             have hn345_1 : ad345.block ≠ gb344 := Nat.ne_of_lt (Nat.lt_of_lt_of_le (by have := World.block_lt_of_cell? _ _ hx345_0; first | rwa [add_block] at this | exact this) GW344.out)
             have hn345_2 : ad345.block ≠ gb344 := Nat.ne_of_lt (Nat.lt_of_lt_of_le (by have := World.block_lt_of_cell? _ _ hx345_0; first | rwa [add_block] at this | exact this) GW344.out)
             replace hx345_0 := (HB.out.cell (World.block_lt_of_cell? w _ hx345_0)).trans hx345_0; replace hx345_1 := (HB.out.cell (World.block_lt_of_cell? w _ hx345_1)).trans hx345_1; have HR345_1 := zaj.mk hi345_1; have HC345_1 := zaj.mk hl345_1; clear hi345_1 hl345_1; replace hx345_0 := (cell_far (p := ⟨gb344, 0, none⟩) (by first | (rw [add_block]; exact hn345_0) | (show (Addr.add _ _).block ≠ _; rw [add_block]; exact hn345_0) | exact hn345_0) (.int .i64 ((zaq l1 x10_2).f0))).trans hx345_0
             replace hx345_1 := (cell_far (p := ⟨gb344, 0, none⟩) (by first | (rw [add_block]; exact hn345_0) | (show (Addr.add _ _).block ≠ _; rw [add_block]; exact hn345_0) | exact hn345_0) (.int .i64 ((zaq l1 x10_2).f0))).trans hx345_1
             replace hx345_0 := (cell_far (p := ⟨gb344, 1, none⟩) (by first | (rw [add_block]; exact hn345_1) | (show (Addr.add _ _).block ≠ _; rw [add_block]; exact hn345_1) | exact hn345_1) (.int .i64 ((zaq l1 x10_2).f1))).trans hx345_0
             replace hx345_1 := (cell_far (p := ⟨gb344, 1, none⟩) (by first | (rw [add_block]; exact hn345_1) | (show (Addr.add _ _).block ≠ _; rw [add_block]; exact hn345_1) | exact hn345_1) (.int .i64 ((zaq l1 x10_2).f1))).trans hx345_1
             replace hx345_0 := (cell_far (p := ⟨gb344, 2, none⟩) (by first | (rw [add_block]; exact hn345_2) | (show (Addr.add _ _).block ≠ _; rw [add_block]; exact hn345_2) | exact hn345_2) (.int .i64 ((zaq l1 x10_2).f2))).trans hx345_0
             replace hx345_1 := (cell_far (p := ⟨gb344, 2, none⟩) (by first | (rw [add_block]; exact hn345_2) | (show (Addr.add _ _).block ≠ _; rw [add_block]; exact hn345_2) | exact hn345_2) (.int .i64 ((zaq l1 x10_2).f2))).trans hx345_1
             (try have hy345_0 := fun (n_ : Nat) => (show (((((w15.drewN n_).setCell ⟨gb344, 0, none⟩ (.int .i64 ((zaq l1 x10_2).f0))).setCell ⟨gb344, 1, none⟩ (.int .i64 ((zaq l1 x10_2).f1))).setCell ⟨gb344, 2, none⟩ (.int .i64 ((zaq l1 x10_2).f2)))).cell? _ = some _ from hx345_0))
             (try have hy345_1 := fun (n_ : Nat) => (show (((((w15.drewN n_).setCell ⟨gb344, 0, none⟩ (.int .i64 ((zaq l1 x10_2).f0))).setCell ⟨gb344, 1, none⟩ (.int .i64 ((zaq l1 x10_2).f1))).setCell ⟨gb344, 2, none⟩ (.int .i64 ((zaq l1 x10_2).f2)))).cell? _ = some _ from hx345_1))
             clear hn345_0; clear hn345_1; clear hn345_2; replace p345 := eq_true p345; replace q345 := eq_true q345; go_wp2
             repeat (go_quiet (fail); try go_wp2)
             go_meet
             case rel => exact ⟨_, (decide (((zaq l1 x10_2).f1) < (((zal l0_2 ((zaq l1 x10_2).f0)).f1).length : Int))), (by first | rfl | (simp; done) | (simp [*]; done)), H', ⟨by have := HJ6.out; have := HK2.out; first | omega | exact Nat.le_refl _⟩, ⟨by (with_reducible repeat (first | apply Kd.zbk | apply Kd.R_drewN | apply Kd.R_drew)); exact Kd.R_mono (Kd.R_far (p := ⟨gb344, 2, none⟩) (Kd.R_far (p := ⟨gb344, 1, none⟩) (Kd.R_far (p := ⟨gb344, 0, none⟩) (Kd.R_types HO_9.out BK344.out (by decide)) (fun _ hk => hk.2) (.int .i64 ((zaq l1 x10_2).f0))) (fun _ hk => hk.2) (.int .i64 ((zaq l1 x10_2).f1))) (fun _ hk => hk.2) (.int .i64 ((zaq l1 x10_2).f2))) (fun _ hk => trivial)⟩, ⟨by (with_reducible repeat (first | apply zai | apply zah | apply zad)); refine zar ?_ NB337_344.out _; (with_reducible repeat (first | apply zai | apply zah | apply zad)); refine zar ?_ NB337_344.out _; (with_reducible repeat (first | apply zai | apply zah | apply zad)); refine zar ?_ NB337_344.out _; (with_reducible repeat (first | apply zai | apply zah | apply zad)); exact BK337.out⟩, ⟨by (with_reducible repeat (first | apply zai | apply zah | apply zad)); refine zat (cs := #[.int .i64 ((zaq l1 x10_2).f0), .int .i64 ((zaq l1 x10_2).f1), .int .i64 0]) ?_ 2 _ rfl; (with_reducible repeat (first | apply zai | apply zah | apply zad)); refine zat (cs := #[.int .i64 ((zaq l1 x10_2).f0), .int .i64 0, .int .i64 0]) ?_ 1 _ rfl; (with_reducible repeat (first | apply zai | apply zah | apply zad)); refine zat (cs := #[.int .i64 0, .int .i64 0, .int .i64 0]) ?_ 0 _ rfl; (with_reducible repeat (first | apply zai | apply zah | apply zad)); exact BK344.out⟩, ⟨by repeat (first | (with_reducible first | exact HB.out | apply zac | apply zab | apply below_drew1 | refine zaf ?_ GE337.out | refine zaf ?_ GE344.out) | exact HB.out)⟩⟩
            ·rw [if_neg c20] at H; exact absurd H (by simp)
           ·rw [if_neg c19] at H; exact absurd H (by simp)
          ·rw [if_neg c18] at H; have c18b0 : (((zaq l1 x10_2).f2) == a3) = false := beq_eq_false_iff_ne.mpr c18; have c18b1 : (((zaq l1 x10_2).f2) != a3) = true := bne_iff_ne.mpr c18
           (first | rw [c18b0] | (simp only [i64_w, i32_w]; rw [c18b0]) | skip)
           have H' := zaj.mk H; clear H; have hnb24 := NB344_337.out; have hnc24 := NB337_344.out; have hcz25_0 : w15.cell? ⟨gb344, 0, none⟩ = some (.int .i64 0) := (zaa BK344.out 0).trans rfl; have hcz25_1 : w15.cell? ⟨gb344, 1, none⟩ = some (.int .i64 0) := (zaa BK344.out 1).trans rfl; have hcz25_2 : w15.cell? ⟨gb344, 2, none⟩ = some (.int .i64 0) := (zaa BK344.out 2).trans rfl; have hfz25_0 := zae BK344.out 0; have hfz25_1 := zae BK344.out 1; have hfz25_2 := zae BK344.out 2; go_wp2
           repeat (go_quiet (fail); try go_wp2)
           go_meet
           case rel => exact ⟨_, (true), (by first | rfl | (simp; done) | (simp [*]; done)), H', ⟨by have := HJ6.out; have := HK2.out; first | omega | exact Nat.le_refl _⟩, ⟨by (with_reducible repeat (first | apply Kd.zbk | apply Kd.R_drewN | apply Kd.R_drew)); exact Kd.R_mono (Kd.R_far (p := ⟨gb344, 2, none⟩) (Kd.R_far (p := ⟨gb344, 1, none⟩) (Kd.R_far (p := ⟨gb344, 0, none⟩) (Kd.R_types HO_9.out BK344.out (by decide)) (fun _ hk => hk.2) (.int .i64 ((zaq l1 x10_2).f0))) (fun _ hk => hk.2) (.int .i64 ((zaq l1 x10_2).f1))) (fun _ hk => hk.2) (.int .i64 ((zaq l1 x10_2).f2))) (fun _ hk => trivial)⟩, ⟨by (with_reducible repeat (first | apply zai | apply zah | apply zad)); refine zar ?_ NB337_344.out _; (with_reducible repeat (first | apply zai | apply zah | apply zad)); refine zar ?_ NB337_344.out _; (with_reducible repeat (first | apply zai | apply zah | apply zad)); refine zar ?_ NB337_344.out _; (with_reducible repeat (first | apply zai | apply zah | apply zad)); exact BK337.out⟩, ⟨by (with_reducible repeat (first | apply zai | apply zah | apply zad)); refine zat (cs := #[.int .i64 ((zaq l1 x10_2).f0), .int .i64 ((zaq l1 x10_2).f1), .int .i64 0]) ?_ 2 _ rfl; (with_reducible repeat (first | apply zai | apply zah | apply zad)); refine zat (cs := #[.int .i64 ((zaq l1 x10_2).f0), .int .i64 0, .int .i64 0]) ?_ 1 _ rfl; (with_reducible repeat (first | apply zai | apply zah | apply zad)); refine zat (cs := #[.int .i64 0, .int .i64 0, .int .i64 0]) ?_ 0 _ rfl; (with_reducible repeat (first | apply zai | apply zah | apply zad)); exact BK344.out⟩, ⟨by repeat (first | (with_reducible first | exact HB.out | apply zac | apply zab | apply below_drew1 | refine zaf ?_ GE337.out | refine zaf ?_ GE344.out) | exact HB.out)⟩⟩
         case rest =>
          clear HC14
          try clear c1
          try clear c2
          try clear p2
          try clear c3
          try clear p3
          try clear q3
          try clear hx3
          try clear c4
          try clear c5
          try clear c5b0
          try clear c6
          try clear c6b0
          try clear c9
          try clear c9b0
          try clear c10
          try clear c12
          try clear c12b0
          try clear c13
          try clear c13b0
          try clear c16
          try clear c18
          try clear c18b0
          try clear c18b1
          try clear c19
          try clear c19b0
          try clear c20
          try clear c20b0
          try clear c21
          try clear c24
          try clear hcz17_0
          try clear hcz17_1
          try clear hcz17_2
          try clear hcz22_0
          try clear hcz22_1
          try clear hcz22_2
          try clear hcz23_0
          try clear hcz23_1
          try clear hcz23_2
          try clear hcz25_0
          try clear hcz25_1
          try clear hcz25_2
          try clear hfz17_0
          try clear hfz17_1
          try clear hfz17_2
          try clear hfz22_0
          try clear hfz22_1
          try clear hfz22_2
          try clear hfz23_0
          try clear hfz23_1
          try clear hfz23_2
          try clear hfz25_0
          try clear hfz25_1
          try clear hfz25_2
          try clear hx338_0
          try clear hx339_0
          try clear hx343_0
          try clear hx343_1
          try clear hx343_2
          try clear hx345_0
          try clear hx345_1
          try clear p2
          try clear p3
          try clear p338
          try clear p339
          try clear p343
          try clear p345
          try clear q3
          try clear q338
          try clear q339
          try clear q343
          try clear q345
          obtain ⟨kq, x54_13, rfl, HA, HJ13, HO_9, BK337, BK344, HB⟩ := hcut; cases kq with
          | zero => exact absurd HA.out (by simp [trellisref13_actions.j2])
          | succ kj13 =>
           have H := HA.out; clear HA; simp only [trellisref13_actions.j2] at H; by_cases c26 : x54_13 = true
           ·subst c26; have H1 : (trellisref13_actions.l0 kj13 l1 a3 x9_2 (wrap64 (x10_2 + 1)) l0_0 l0_1 l0_2) = some r := by rw [if_pos rfl] at H; exact H
            clear H; have H := H1; clear H1; have H' := zaj.mk H; clear H; go_wp2
            repeat (go_quiet (fail); try go_wp2)
            go_roundg kj13
            case measure => have := HJ6.out; have := HK2.out; have := HJ13.out; omega
            case rel => exact ⟨(x9_2), (wrap64 (x10_2 + 1)), (by first | rfl | (simp; done) | (simp [*]; done)), H', ⟨by have := HJ6.out; have := HK2.out; have := HJ13.out; omega⟩, ⟨by (with_reducible repeat (first | apply Kd.zbk | apply Kd.R_drewN | apply Kd.R_drew)); exact HO_9.out⟩, ⟨by (with_reducible repeat (first | apply zai | apply zah | apply zad)); exact BK337.out⟩, ⟨by repeat (first | (with_reducible first | exact HB.out | apply zac | apply zab | apply below_drew1 | refine zaf ?_ GE337.out | refine zaf ?_ GE344.out) | exact HB.out)⟩⟩
           ·replace c26 := Bool.eq_false_iff.mpr c26; subst c26; have H1 : (if ((zaq l1 x10_2).f0) = 0 then (trellisref13_actions.j3 kj13 l1 a3 x9_2 x10_2 l0_0 l0_1 l0_2 3 0) else (trellisref13_actions.j3 kj13 l1 a3 x9_2 x10_2 l0_0 l0_1 l0_2 2 ((zaq l1 x10_2).f0))) = some r := by rw [if_neg (show ¬ (false = true) by decide)] at H; exact H
            clear H; have H := H1; clear H1; have HC27 := zaj.mk H; clear H; have hnb28 := NB344_337.out; have hnc28 := NB337_344.out; have hcz29_0 : wc.cell? ⟨gb344, 0, none⟩ = some (.int .i64 ((zaq l1 x10_2).f0)) := (zaa BK344.out 0).trans rfl; have hcz29_1 : wc.cell? ⟨gb344, 1, none⟩ = some (.int .i64 ((zaq l1 x10_2).f1)) := (zaa BK344.out 1).trans rfl; have hcz29_2 : wc.cell? ⟨gb344, 2, none⟩ = some (.int .i64 ((zaq l1 x10_2).f2)) := (zaa BK344.out 2).trans rfl; have hfz29_0 := zae BK344.out 0; have hfz29_1 := zae BK344.out 1; have hfz29_2 := zae BK344.out 2
            go_upto_if 60 with (first | ((with_reducible refine zbg (N := 12) rfl ?_); (try (refine zaz (by rfl) ?_; dsimp only)); refine zbe ?hg (N := 12) ?hd (cs := #[.int .i64 0, .int .i64 0]) (t := 93) ?hr ?_; (case hd => rfl); (case hg => rfl); (case hr => first | (go_simp; done) | (go_simp; rfl)); intro gb346 hg w30 hbox hb; have n0_ := zaj.mk (Kd.zbf (Kd.R_elderB (by (with_reducible repeat (first | apply Kd.zbk | apply Kd.R_drewN | apply Kd.R_drew)); exact HO_9.out) gb346 (Nat.le_of_eq hg.symm)) hb); have n1_ := zaj.mk (zak (g := gb337) (o := .cells #[.slice A0_0 l0_0.length c0_0, .slice A0_1 l0_1.length c0_1, .slice A0_2 l0_2.length c0_2] 51 (0, 0)) (by (with_reducible repeat (first | apply zai | apply zah | apply zad)); exact BK337.out) hb); have n2_ := zaj.mk (zak (g := gb344) (o := .cells #[.int .i64 ((zaq l1 x10_2).f0), .int .i64 ((zaq l1 x10_2).f1), .int .i64 ((zaq l1 x10_2).f2)] 178 (0, 0)) (by (with_reducible repeat (first | apply zai | apply zah | apply zad)); exact BK344.out) hb); have n3_ := zaj.mk (zam (by repeat (first | (with_reducible first | exact HB.out | apply zac | apply zab | apply below_drew1 | refine zaf ?_ GE337.out | refine zaf ?_ GE344.out) | exact HB.out)) hb); have n4_ := zaj.mk (hbox); have n5_ := zaj.mk ((by rw [hg]; exact (zao (by repeat (first | (with_reducible first | exact HB.out | apply zac | apply zab | apply below_drew1 | refine zaf ?_ GE337.out | refine zaf ?_ GE344.out) | exact HB.out))) : w.heap.size ≤ gb346)); have n6_ := zaj.mk ((by rw [hg]; exact (zao (by repeat (first | (with_reducible first | exact HB.out | apply zac | apply zab | apply below_drew1 | refine zaf ?_ GE337.out | refine zaf ?_ GE344.out) | exact HB.out))) : w.heap.size ≤ gb346)); have n7_ := zaj.mk ((by rw [hg]; exact Nat.ne_of_lt (zba (g := gb337) (o := .cells #[.slice A0_0 l0_0.length c0_0, .slice A0_1 l0_1.length c0_1, .slice A0_2 l0_2.length c0_2] 51 (0, 0)) (by (with_reducible repeat (first | apply zai | apply zah | apply zad)); exact BK337.out)) : gb337 ≠ gb346)); have n8_ := zaj.mk ((by rw [hg]; exact Nat.ne_of_gt (zba (g := gb337) (o := .cells #[.slice A0_0 l0_0.length c0_0, .slice A0_1 l0_1.length c0_1, .slice A0_2 l0_2.length c0_2] 51 (0, 0)) (by (with_reducible repeat (first | apply zai | apply zah | apply zad)); exact BK337.out)) : gb346 ≠ gb337)); have n9_ := zaj.mk ((by rw [hg]; exact Nat.ne_of_lt (zba (g := gb344) (o := .cells #[.int .i64 ((zaq l1 x10_2).f0), .int .i64 ((zaq l1 x10_2).f1), .int .i64 ((zaq l1 x10_2).f2)] 178 (0, 0)) (by (with_reducible repeat (first | apply zai | apply zah | apply zad)); exact BK344.out)) : gb344 ≠ gb346)); have n10_ := zaj.mk ((by rw [hg]; exact Nat.ne_of_gt (zba (g := gb344) (o := .cells #[.int .i64 ((zaq l1 x10_2).f0), .int .i64 ((zaq l1 x10_2).f1), .int .i64 ((zaq l1 x10_2).f2)] 178 (0, 0)) (by (with_reducible repeat (first | apply zai | apply zah | apply zad)); exact BK344.out)) : gb346 ≠ gb344)); clear HO_9; clear BK337; clear BK344; clear HB; have HO_9 := n0_; have BK337 := n1_; have BK344 := n2_; have HB := n3_; have BK346 := n4_; have GW346 := n5_; have GE346 := n6_; have NB337_346 := n7_; have NB346_337 := n8_; have NB344_346 := n9_; have NB346_344 := n10_; clear n0_ n1_ n2_ n3_ n4_ n5_ n6_ n7_ n8_ n9_ n10_; clear hb hbox hg; have hnb31 := NB346_337.out; have hnc31 := NB337_346.out; have hnb32 := NB346_344.out; have hnc32 := NB344_346.out; have hcz33_0 : w30.cell? ⟨gb346, 0, none⟩ = some (.int .i64 0) := (zaa BK346.out 0).trans rfl; have hcz33_1 : w30.cell? ⟨gb346, 1, none⟩ = some (.int .i64 0) := (zaa BK346.out 1).trans rfl; have hfz33_0 := zae BK346.out 0; have hfz33_1 := zae BK346.out 1; have hcz34_0 : w30.cell? ⟨gb344, 0, none⟩ = some (.int .i64 ((zaq l1 x10_2).f0)) := (zaa BK344.out 0).trans rfl; have hcz34_1 : w30.cell? ⟨gb344, 1, none⟩ = some (.int .i64 ((zaq l1 x10_2).f1)) := (zaa BK344.out 1).trans rfl; have hcz34_2 : w30.cell? ⟨gb344, 2, none⟩ = some (.int .i64 ((zaq l1 x10_2).f2)) := (zaa BK344.out 2).trans rfl; have hfz34_0 := zae BK344.out 0; have hfz34_1 := zae BK344.out 1; have hfz34_2 := zae BK344.out 2))
            repeat (go_quiet (first | ((with_reducible refine zbg (N := 12) rfl ?_); (try (refine zaz (by rfl) ?_; dsimp only)); refine zbe ?hg (N := 12) ?hd (cs := #[.int .i64 0, .int .i64 0]) (t := 93) ?hr ?_; (case hd => rfl); (case hg => rfl); (case hr => first | (go_simp; done) | (go_simp; rfl)); intro gb346 hg w30 hbox hb; have n0_ := zaj.mk (Kd.zbf (Kd.R_elderB (by (with_reducible repeat (first | apply Kd.zbk | apply Kd.R_drewN | apply Kd.R_drew)); exact HO_9.out) gb346 (Nat.le_of_eq hg.symm)) hb); have n1_ := zaj.mk (zak (g := gb337) (o := .cells #[.slice A0_0 l0_0.length c0_0, .slice A0_1 l0_1.length c0_1, .slice A0_2 l0_2.length c0_2] 51 (0, 0)) (by (with_reducible repeat (first | apply zai | apply zah | apply zad)); exact BK337.out) hb); have n2_ := zaj.mk (zak (g := gb344) (o := .cells #[.int .i64 ((zaq l1 x10_2).f0), .int .i64 ((zaq l1 x10_2).f1), .int .i64 ((zaq l1 x10_2).f2)] 178 (0, 0)) (by (with_reducible repeat (first | apply zai | apply zah | apply zad)); exact BK344.out) hb); have n3_ := zaj.mk (zam (by repeat (first | (with_reducible first | exact HB.out | apply zac | apply zab | apply below_drew1 | refine zaf ?_ GE337.out | refine zaf ?_ GE344.out) | exact HB.out)) hb); have n4_ := zaj.mk (hbox); have n5_ := zaj.mk ((by rw [hg]; exact (zao (by repeat (first | (with_reducible first | exact HB.out | apply zac | apply zab | apply below_drew1 | refine zaf ?_ GE337.out | refine zaf ?_ GE344.out) | exact HB.out))) : w.heap.size ≤ gb346)); have n6_ := zaj.mk ((by rw [hg]; exact (zao (by repeat (first | (with_reducible first | exact HB.out | apply zac | apply zab | apply below_drew1 | refine zaf ?_ GE337.out | refine zaf ?_ GE344.out) | exact HB.out))) : w.heap.size ≤ gb346)); have n7_ := zaj.mk ((by rw [hg]; exact Nat.ne_of_lt (zba (g := gb337) (o := .cells #[.slice A0_0 l0_0.length c0_0, .slice A0_1 l0_1.length c0_1, .slice A0_2 l0_2.length c0_2] 51 (0, 0)) (by (with_reducible repeat (first | apply zai | apply zah | apply zad)); exact BK337.out)) : gb337 ≠ gb346)); have n8_ := zaj.mk ((by rw [hg]; exact Nat.ne_of_gt (zba (g := gb337) (o := .cells #[.slice A0_0 l0_0.length c0_0, .slice A0_1 l0_1.length c0_1, .slice A0_2 l0_2.length c0_2] 51 (0, 0)) (by (with_reducible repeat (first | apply zai | apply zah | apply zad)); exact BK337.out)) : gb346 ≠ gb337)); have n9_ := zaj.mk ((by rw [hg]; exact Nat.ne_of_lt (zba (g := gb344) (o := .cells #[.int .i64 ((zaq l1 x10_2).f0), .int .i64 ((zaq l1 x10_2).f1), .int .i64 ((zaq l1 x10_2).f2)] 178 (0, 0)) (by (with_reducible repeat (first | apply zai | apply zah | apply zad)); exact BK344.out)) : gb344 ≠ gb346)); have n10_ := zaj.mk ((by rw [hg]; exact Nat.ne_of_gt (zba (g := gb344) (o := .cells #[.int .i64 ((zaq l1 x10_2).f0), .int .i64 ((zaq l1 x10_2).f1), .int .i64 ((zaq l1 x10_2).f2)] 178 (0, 0)) (by (with_reducible repeat (first | apply zai | apply zah | apply zad)); exact BK344.out)) : gb346 ≠ gb344)); clear HO_9; clear BK337; clear BK344; clear HB; have HO_9 := n0_; have BK337 := n1_; have BK344 := n2_; have HB := n3_; have BK346 := n4_; have GW346 := n5_; have GE346 := n6_; have NB337_346 := n7_; have NB346_337 := n8_; have NB344_346 := n9_; have NB346_344 := n10_; clear n0_ n1_ n2_ n3_ n4_ n5_ n6_ n7_ n8_ n9_ n10_; clear hb hbox hg; have hnb31 := NB346_337.out; have hnc31 := NB337_346.out; have hnb32 := NB346_344.out; have hnc32 := NB344_346.out; have hcz33_0 : w30.cell? ⟨gb346, 0, none⟩ = some (.int .i64 0) := (zaa BK346.out 0).trans rfl; have hcz33_1 : w30.cell? ⟨gb346, 1, none⟩ = some (.int .i64 0) := (zaa BK346.out 1).trans rfl; have hfz33_0 := zae BK346.out 0; have hfz33_1 := zae BK346.out 1; have hcz34_0 : w30.cell? ⟨gb344, 0, none⟩ = some (.int .i64 ((zaq l1 x10_2).f0)) := (zaa BK344.out 0).trans rfl; have hcz34_1 : w30.cell? ⟨gb344, 1, none⟩ = some (.int .i64 ((zaq l1 x10_2).f1)) := (zaa BK344.out 1).trans rfl; have hcz34_2 : w30.cell? ⟨gb344, 2, none⟩ = some (.int .i64 ((zaq l1 x10_2).f2)) := (zaa BK344.out 2).trans rfl; have hfz34_0 := zae BK344.out 0; have hfz34_1 := zae BK344.out 1; have hfz34_2 := zae BK344.out 2)); go_upto_if 60 with (first | ((with_reducible refine zbg (N := 12) rfl ?_); (try (refine zaz (by rfl) ?_; dsimp only)); refine zbe ?hg (N := 12) ?hd (cs := #[.int .i64 0, .int .i64 0]) (t := 93) ?hr ?_; (case hd => rfl); (case hg => rfl); (case hr => first | (go_simp; done) | (go_simp; rfl)); intro gb346 hg w30 hbox hb; have n0_ := zaj.mk (Kd.zbf (Kd.R_elderB (by (with_reducible repeat (first | apply Kd.zbk | apply Kd.R_drewN | apply Kd.R_drew)); exact HO_9.out) gb346 (Nat.le_of_eq hg.symm)) hb); have n1_ := zaj.mk (zak (g := gb337) (o := .cells #[.slice A0_0 l0_0.length c0_0, .slice A0_1 l0_1.length c0_1, .slice A0_2 l0_2.length c0_2] 51 (0, 0)) (by (with_reducible repeat (first | apply zai | apply zah | apply zad)); exact BK337.out) hb); have n2_ := zaj.mk (zak (g := gb344) (o := .cells #[.int .i64 ((zaq l1 x10_2).f0), .int .i64 ((zaq l1 x10_2).f1), .int .i64 ((zaq l1 x10_2).f2)] 178 (0, 0)) (by (with_reducible repeat (first | apply zai | apply zah | apply zad)); exact BK344.out) hb); have n3_ := zaj.mk (zam (by repeat (first | (with_reducible first | exact HB.out | apply zac | apply zab | apply below_drew1 | refine zaf ?_ GE337.out | refine zaf ?_ GE344.out) | exact HB.out)) hb); have n4_ := zaj.mk (hbox); have n5_ := zaj.mk ((by rw [hg]; exact (zao (by repeat (first | (with_reducible first | exact HB.out | apply zac | apply zab | apply below_drew1 | refine zaf ?_ GE337.out | refine zaf ?_ GE344.out) | exact HB.out))) : w.heap.size ≤ gb346)); have n6_ := zaj.mk ((by rw [hg]; exact (zao (by repeat (first | (with_reducible first | exact HB.out | apply zac | apply zab | apply below_drew1 | refine zaf ?_ GE337.out | refine zaf ?_ GE344.out) | exact HB.out))) : w.heap.size ≤ gb346)); have n7_ := zaj.mk ((by rw [hg]; exact Nat.ne_of_lt (zba (g := gb337) (o := .cells #[.slice A0_0 l0_0.length c0_0, .slice A0_1 l0_1.length c0_1, .slice A0_2 l0_2.length c0_2] 51 (0, 0)) (by (with_reducible repeat (first | apply zai | apply zah | apply zad)); exact BK337.out)) : gb337 ≠ gb346)); have n8_ := zaj.mk ((by rw [hg]; exact Nat.ne_of_gt (zba (g := gb337) (o := .cells #[.slice A0_0 l0_0.length c0_0, .slice A0_1 l0_1.length c0_1, .slice A0_2 l0_2.length c0_2] 51 (0, 0)) (by (with_reducible repeat (first | apply zai | apply zah | apply zad)); exact BK337.out)) : gb346 ≠ gb337)); have n9_ := zaj.mk ((by rw [hg]; exact Nat.ne_of_lt (zba (g := gb344) (o := .cells #[.int .i64 ((zaq l1 x10_2).f0), .int .i64 ((zaq l1 x10_2).f1), .int .i64 ((zaq l1 x10_2).f2)] 178 (0, 0)) (by (with_reducible repeat (first | apply zai | apply zah | apply zad)); exact BK344.out)) : gb344 ≠ gb346)); have n10_ := zaj.mk ((by rw [hg]; exact Nat.ne_of_gt (zba (g := gb344) (o := .cells #[.int .i64 ((zaq l1 x10_2).f0), .int .i64 ((zaq l1 x10_2).f1), .int .i64 ((zaq l1 x10_2).f2)] 178 (0, 0)) (by (with_reducible repeat (first | apply zai | apply zah | apply zad)); exact BK344.out)) : gb346 ≠ gb344)); clear HO_9; clear BK337; clear BK344; clear HB; have HO_9 := n0_; have BK337 := n1_; have BK344 := n2_; have HB := n3_; have BK346 := n4_; have GW346 := n5_; have GE346 := n6_; have NB337_346 := n7_; have NB346_337 := n8_; have NB344_346 := n9_; have NB346_344 := n10_; clear n0_ n1_ n2_ n3_ n4_ n5_ n6_ n7_ n8_ n9_ n10_; clear hb hbox hg; have hnb31 := NB346_337.out; have hnc31 := NB337_346.out; have hnb32 := NB346_344.out; have hnc32 := NB344_346.out; have hcz33_0 : w30.cell? ⟨gb346, 0, none⟩ = some (.int .i64 0) := (zaa BK346.out 0).trans rfl; have hcz33_1 : w30.cell? ⟨gb346, 1, none⟩ = some (.int .i64 0) := (zaa BK346.out 1).trans rfl; have hfz33_0 := zae BK346.out 0; have hfz33_1 := zae BK346.out 1; have hcz34_0 : w30.cell? ⟨gb344, 0, none⟩ = some (.int .i64 ((zaq l1 x10_2).f0)) := (zaa BK344.out 0).trans rfl; have hcz34_1 : w30.cell? ⟨gb344, 1, none⟩ = some (.int .i64 ((zaq l1 x10_2).f1)) := (zaa BK344.out 1).trans rfl; have hcz34_2 : w30.cell? ⟨gb344, 2, none⟩ = some (.int .i64 ((zaq l1 x10_2).f2)) := (zaa BK344.out 2).trans rfl; have hfz34_0 := zae BK344.out 0; have hfz34_1 := zae BK344.out 1; have hfz34_2 := zae BK344.out 2)))
            (try simp only [Act.put, List.setIfInBounds_toArray, List.set_cons_zero, List.set_cons_succ])
            go_cut [] (fun wc => ∃ (kq : Nat) (x347000_26 : Int) (x347001_26 : Int), zaj (trellisref13_actions.j3 kq l1 a3 x9_2 x10_2 l0_0 l0_1 l0_2 x347000_26 x347001_26 = some r) ∧ zaj (kq ≤ kj13) ∧ zaj (Kd.R k93 93 wc w.heap.size (fun k_ => k_ ≠ gb346) u9 x9_2) ∧ zaj (wc.heap[gb337]? = some (.cells #[(.slice A0_0 l0_0.length c0_0), (.slice A0_1 l0_1.length c0_1), (.slice A0_2 l0_2.length c0_2)] 51 (0, 0))) ∧ zaj (wc.heap[gb344]? = some (.cells #[.int .i64 ((zaq l1 x10_2).f0), .int .i64 ((zaq l1 x10_2).f1), .int .i64 ((zaq l1 x10_2).f2)] 178 (0, 0))) ∧ zaj (wc.heap[gb346]? = some (.cells #[.int .i64 x347000_26, .int .i64 x347001_26] 93 (0, 0))) ∧ zaj (Below w.heap.size w wc))
            case first =>
             have H := HC27.out; clear HC27; by_cases c35 : ((zaq l1 x10_2).f0) = 0
             ·rw [if_pos c35] at H; have c35b0 : (((zaq l1 x10_2).f0) == 0) = true := beq_iff_eq.mpr c35; have c35b1 : (((zaq l1 x10_2).f0) != 0) = false := bne_eq_false_iff_eq.mpr c35; clear c35
              (first | rw [c35b0] | (simp only [i64_w, i32_w]; rw [c35b0]) | skip)
              have H' := zaj.mk H; clear H; have hnb36 := NB346_337.out; have hnc36 := NB337_346.out; have hnb37 := NB346_344.out; have hnc37 := NB344_346.out; have hcz38_0 : w30.cell? ⟨gb346, 0, none⟩ = some (.int .i64 0) := (zaa BK346.out 0).trans rfl; have hcz38_1 : w30.cell? ⟨gb346, 1, none⟩ = some (.int .i64 0) := (zaa BK346.out 1).trans rfl; have hfz38_0 := zae BK346.out 0; have hfz38_1 := zae BK346.out 1; go_wp2
              repeat (go_quiet (fail); try go_wp2)
              go_meet
              case rel => exact ⟨_, (3), (0), H', ⟨by have := HJ6.out; have := HK2.out; have := HJ13.out; first | omega | exact Nat.le_refl _⟩, ⟨by (with_reducible repeat (first | apply Kd.zbk | apply Kd.R_drewN | apply Kd.R_drew)); exact Kd.R_mono (Kd.R_far (p := ⟨gb346, 1, none⟩) (Kd.R_far (p := ⟨gb346, 0, none⟩) (Kd.R_far (p := ⟨gb346, 1, none⟩) (Kd.R_far (p := ⟨gb346, 0, none⟩) (Kd.R_mono HO_9.out (fun k_ hk => (⟨hk, hk.2⟩ : _ ∧ k_ ≠ gb346))) (fun _ hk => hk.2) (.int .i64 2)) (fun _ hk => hk.2) (.int .i64 ((zaq l1 x10_2).f0))) (fun _ hk => hk.2) (.int .i64 3)) (fun _ hk => hk.2) (.int .i64 0)) (fun _ hk => hk.1.2)⟩, ⟨by (with_reducible repeat (first | apply zai | apply zah | apply zad)); refine zar ?_ NB337_346.out _; (with_reducible repeat (first | apply zai | apply zah | apply zad)); refine zar ?_ NB337_346.out _; (with_reducible repeat (first | apply zai | apply zah | apply zad)); refine zar ?_ NB337_346.out _; (with_reducible repeat (first | apply zai | apply zah | apply zad)); refine zar ?_ NB337_346.out _; (with_reducible repeat (first | apply zai | apply zah | apply zad)); exact BK337.out⟩, ⟨by (with_reducible repeat (first | apply zai | apply zah | apply zad)); refine zar ?_ NB344_346.out _; (with_reducible repeat (first | apply zai | apply zah | apply zad)); refine zar ?_ NB344_346.out _; (with_reducible repeat (first | apply zai | apply zah | apply zad)); refine zar ?_ NB344_346.out _; (with_reducible repeat (first | apply zai | apply zah | apply zad)); refine zar ?_ NB344_346.out _; (with_reducible repeat (first | apply zai | apply zah | apply zad)); exact BK344.out⟩, ⟨by (with_reducible repeat (first | apply zai | apply zah | apply zad)); refine zat (cs := #[.int .i64 3, .int .i64 ((zaq l1 x10_2).f0)]) ?_ 1 _ rfl; (with_reducible repeat (first | apply zai | apply zah | apply zad)); refine zat (cs := #[.int .i64 2, .int .i64 ((zaq l1 x10_2).f0)]) ?_ 0 _ rfl; (with_reducible repeat (first | apply zai | apply zah | apply zad)); refine zat (cs := #[.int .i64 2, .int .i64 0]) ?_ 1 _ rfl; (with_reducible repeat (first | apply zai | apply zah | apply zad)); refine zat (cs := #[.int .i64 0, .int .i64 0]) ?_ 0 _ rfl; (with_reducible repeat (first | apply zai | apply zah | apply zad)); exact BK346.out⟩, ⟨by repeat (first | (with_reducible first | exact HB.out | apply zac | apply zab | apply below_drew1 | refine zaf ?_ GE337.out | refine zaf ?_ GE344.out | refine zaf ?_ GE346.out) | exact HB.out)⟩⟩
             ·rw [if_neg c35] at H; have c35b0 : (((zaq l1 x10_2).f0) == 0) = false := beq_eq_false_iff_ne.mpr c35; have c35b1 : (((zaq l1 x10_2).f0) != 0) = true := bne_iff_ne.mpr c35
              (first | rw [c35b0] | (simp only [i64_w, i32_w]; rw [c35b0]) | skip)
              have H' := zaj.mk H; clear H; go_wp2
              repeat (go_quiet (fail); try go_wp2)
              go_meet
              case rel => exact ⟨_, (2), (((zaq l1 x10_2).f0)), H', ⟨by have := HJ6.out; have := HK2.out; have := HJ13.out; first | omega | exact Nat.le_refl _⟩, ⟨by (with_reducible repeat (first | apply Kd.zbk | apply Kd.R_drewN | apply Kd.R_drew)); exact Kd.R_mono (Kd.R_far (p := ⟨gb346, 1, none⟩) (Kd.R_far (p := ⟨gb346, 0, none⟩) (Kd.R_mono HO_9.out (fun k_ hk => (⟨hk, hk.2⟩ : _ ∧ k_ ≠ gb346))) (fun _ hk => hk.2) (.int .i64 2)) (fun _ hk => hk.2) (.int .i64 ((zaq l1 x10_2).f0))) (fun _ hk => hk.1.2)⟩, ⟨by (with_reducible repeat (first | apply zai | apply zah | apply zad)); refine zar ?_ NB337_346.out _; (with_reducible repeat (first | apply zai | apply zah | apply zad)); refine zar ?_ NB337_346.out _; (with_reducible repeat (first | apply zai | apply zah | apply zad)); exact BK337.out⟩, ⟨by (with_reducible repeat (first | apply zai | apply zah | apply zad)); refine zar ?_ NB344_346.out _; (with_reducible repeat (first | apply zai | apply zah | apply zad)); refine zar ?_ NB344_346.out _; (with_reducible repeat (first | apply zai | apply zah | apply zad)); exact BK344.out⟩, ⟨by (with_reducible repeat (first | apply zai | apply zah | apply zad)); refine zat (cs := #[.int .i64 2, .int .i64 0]) ?_ 1 _ rfl; (with_reducible repeat (first | apply zai | apply zah | apply zad)); refine zat (cs := #[.int .i64 0, .int .i64 0]) ?_ 0 _ rfl; (with_reducible repeat (first | apply zai | apply zah | apply zad)); exact BK346.out⟩, ⟨by repeat (first | (with_reducible first | exact HB.out | apply zac | apply zab | apply below_drew1 | refine zaf ?_ GE337.out | refine zaf ?_ GE344.out | refine zaf ?_ GE346.out) | exact HB.out)⟩⟩
            case rest =>
             clear HC27
             try clear c1
             try clear c2
             try clear p2
             try clear c3
             try clear p3
             try clear q3
             try clear hx3
             try clear c4
             try clear c5
             try clear c5b0
             try clear c6
             try clear c6b0
             try clear p6
             try clear c9
             try clear c9b0
             try clear c10
             try clear c12
             try clear c12b0
             try clear c13
             try clear c13b0
             try clear c16
             try clear c18
             try clear c18b0
             try clear c18b1
             try clear c19
             try clear c19b0
             try clear c20
             try clear c20b0
             try clear c21
             try clear c24
             try clear c26
             try clear c28
             try clear c31
             try clear c32
             try clear p33
             try clear q33
             try clear hx33
             try clear c34
             try clear p34
             try clear q34
             try clear hx34
             try clear c35
             try clear c35b0
             try clear c35b1
             try clear c36
             try clear c37
             try clear hcz17_0
             try clear hcz17_1
             try clear hcz17_2
             try clear hcz22_0
             try clear hcz22_1
             try clear hcz22_2
             try clear hcz23_0
             try clear hcz23_1
             try clear hcz23_2
             try clear hcz25_0
             try clear hcz25_1
             try clear hcz25_2
             try clear hcz29_0
             try clear hcz29_1
             try clear hcz29_2
             try clear hcz33_0
             try clear hcz33_1
             try clear hcz34_0
             try clear hcz34_1
             try clear hcz34_2
             try clear hcz38_0
             try clear hcz38_1
             try clear hfz17_0
             try clear hfz17_1
             try clear hfz17_2
             try clear hfz22_0
             try clear hfz22_1
             try clear hfz22_2
             try clear hfz23_0
             try clear hfz23_1
             try clear hfz23_2
             try clear hfz25_0
             try clear hfz25_1
             try clear hfz25_2
             try clear hfz29_0
             try clear hfz29_1
             try clear hfz29_2
             try clear hfz33_0
             try clear hfz33_1
             try clear hfz34_0
             try clear hfz34_1
             try clear hfz34_2
             try clear hfz38_0
             try clear hfz38_1
             try clear hx338_0
             try clear hx339_0
             try clear hx343_0
             try clear hx343_1
             try clear hx343_2
             try clear hx345_0
             try clear hx345_1
             try clear p2
             try clear p3
             try clear p338
             try clear p339
             try clear p343
             try clear p345
             try clear q3
             try clear q338
             try clear q339
             try clear q343
             try clear q345
             obtain ⟨kq, x347000_26, x347001_26, HA, HJ26, HO_9, BK337, BK344, BK346, HB⟩ := hcut; cases kq with
             | zero => exact absurd HA.out (by simp [trellisref13_actions.j3])
             | succ kj26 =>
              have H := HA.out; clear HA; simp only [trellisref13_actions.j3] at H; have H' := zaj.mk H; clear H; go_wp2
              repeat (go_quiet (fail); try go_wp2)
              go_loopg [13, 14] kj26 (fun kq v13 v14 w' => ∃ (x13_5 : Bool) (x14_5 : Int), v13 = .bool x13_5 ∧ v14 = .int .i64 x14_5 ∧ zaj (trellisref13_actions.l1 kq l1 a3 x9_2 x10_2 x13_5 x14_5 l0_0 l0_1 l0_2 x347000_26 x347001_26 = some r) ∧ zaj (kq ≤ kj26) ∧ zaj (Kd.R k93 93 w' w.heap.size (fun k_ => k_ ≠ gb346) u9 x9_2) ∧ zaj (w'.heap[gb337]? = some (.cells #[(.slice A0_0 l0_0.length c0_0), (.slice A0_1 l0_1.length c0_1), (.slice A0_2 l0_2.length c0_2)] 51 (0, 0))) ∧ zaj (w'.heap[gb344]? = some (.cells #[.int .i64 ((zaq l1 x10_2).f0), .int .i64 ((zaq l1 x10_2).f1), .int .i64 ((zaq l1 x10_2).f2)] 178 (0, 0))) ∧ zaj (w'.heap[gb346]? = some (.cells #[.int .i64 x347000_26, .int .i64 x347001_26] 93 (0, 0))) ∧ zaj (Below w.heap.size w w'))
              case atStart => exact ⟨(false), (0), (by first | rfl | (simp; done) | (simp [*]; done)), (by first | rfl | (simp; done) | (simp [*]; done)), H', ⟨Nat.le_refl _⟩, ⟨by (with_reducible repeat (first | apply Kd.zbk | apply Kd.R_drewN | apply Kd.R_drew)); exact HO_9.out⟩, ⟨by (with_reducible repeat (first | apply zai | apply zah | apply zad)); exact BK337.out⟩, ⟨by (with_reducible repeat (first | apply zai | apply zah | apply zad)); exact BK344.out⟩, ⟨by (with_reducible repeat (first | apply zai | apply zah | apply zad)); exact BK346.out⟩, ⟨by repeat (first | (with_reducible first | exact HB.out | apply zac | apply zab | apply below_drew1 | refine zaf ?_ GE337.out | refine zaf ?_ GE344.out | refine zaf ?_ GE346.out) | exact HB.out)⟩⟩
              case round =>
               clear H'
               try clear c1
               try clear c2
               try clear p2
               try clear c3
               try clear p3
               try clear q3
               try clear hx3
               try clear c4
               try clear c5
               try clear c5b0
               try clear c6
               try clear c6b0
               try clear p6
               try clear c9
               try clear c9b0
               try clear c10
               try clear c12
               try clear c12b0
               try clear c13
               try clear c13b0
               try clear c16
               try clear c18
               try clear c18b0
               try clear c18b1
               try clear c19
               try clear c19b0
               try clear c20
               try clear c20b0
               try clear c21
               try clear c24
               try clear c26
               try clear c28
               try clear c31
               try clear c32
               try clear p33
               try clear q33
               try clear hx33
               try clear c34
               try clear p34
               try clear q34
               try clear hx34
               try clear c35
               try clear c35b0
               try clear c35b1
               try clear c36
               try clear c37
               try clear hcz17_0
               try clear hcz17_1
               try clear hcz17_2
               try clear hcz22_0
               try clear hcz22_1
               try clear hcz22_2
               try clear hcz23_0
               try clear hcz23_1
               try clear hcz23_2
               try clear hcz25_0
               try clear hcz25_1
               try clear hcz25_2
               try clear hcz29_0
               try clear hcz29_1
               try clear hcz29_2
               try clear hcz33_0
               try clear hcz33_1
               try clear hcz34_0
               try clear hcz34_1
               try clear hcz34_2
               try clear hcz38_0
               try clear hcz38_1
               try clear hfz17_0
               try clear hfz17_1
               try clear hfz17_2
               try clear hfz22_0
               try clear hfz22_1
               try clear hfz22_2
               try clear hfz23_0
               try clear hfz23_1
               try clear hfz23_2
               try clear hfz25_0
               try clear hfz25_1
               try clear hfz25_2
               try clear hfz29_0
               try clear hfz29_1
               try clear hfz29_2
               try clear hfz33_0
               try clear hfz33_1
               try clear hfz34_0
               try clear hfz34_1
               try clear hfz34_2
               try clear hfz38_0
               try clear hfz38_1
               try clear hx338_0
               try clear hx339_0
               try clear hx343_0
               try clear hx343_1
               try clear hx343_2
               try clear hx345_0
               try clear hx345_1
               try clear p2
               try clear p3
               try clear p33
               try clear p338
               try clear p339
               try clear p34
               try clear p343
               try clear p345
               try clear p6
               try clear q3
               try clear q33
               try clear q338
               try clear q339
               try clear q34
               try clear q343
               try clear q345
               obtain ⟨x13_5, x14_5, rfl, rfl, HA, HK5, HO_9, BK337, BK344, BK346, HB⟩ := hrel; cases gk with
               | zero => exact absurd HA.out (by simp [trellisref13_actions.l1])
               | succ k5 =>
                have H := HA.out; clear HA; simp only [trellisref13_actions.l1] at H; by_cases c39 : x14_5 < (x9_2.length : Int)
                ·rw [if_pos c39] at H; have c39b0 : decide (x14_5 < (x9_2.length : Int)) = true := decide_eq_true c39; clear c39; by_cases c40 : x13_5 = true
                 ·subst c40; have H1 : (trellisref13_actions.l1 k5 l1 a3 x9_2 x10_2 true (wrap64 (x14_5 + 1)) l0_0 l0_1 l0_2 x347000_26 x347001_26) = some r := by rw [if_pos rfl] at H; exact H
                  clear H; have H := H1; clear H1; have H' := zaj.mk H; clear H; obtain ⟨Ao41, co41, eo41⟩ := Kd.R_slice HO_9.out; subst eo41; go_wp2
                  repeat (go_quiet (fail); try go_wp2)
                  go_roundg k5
                  case measure => have := HJ6.out; have := HK2.out; have := HJ13.out; have := HJ26.out; have := HK5.out; omega
                  case rel => exact ⟨(true), (wrap64 (x14_5 + 1)), (by first | rfl | (simp; done) | (simp [*]; done)), (by first | rfl | (simp; done) | (simp [*]; done)), H', ⟨by have := HJ6.out; have := HK2.out; have := HJ13.out; have := HJ26.out; have := HK5.out; omega⟩, ⟨by (with_reducible repeat (first | apply Kd.zbk | apply Kd.R_drewN | apply Kd.R_drew)); exact HO_9.out⟩, ⟨by (with_reducible repeat (first | apply zai | apply zah | apply zad)); exact BK337.out⟩, ⟨by (with_reducible repeat (first | apply zai | apply zah | apply zad)); exact BK344.out⟩, ⟨by (with_reducible repeat (first | apply zai | apply zah | apply zad)); exact BK346.out⟩, ⟨by repeat (first | (with_reducible first | exact HB.out | apply zac | apply zab | apply below_drew1 | refine zaf ?_ GE337.out | refine zaf ?_ GE344.out | refine zaf ?_ GE346.out) | exact HB.out)⟩⟩
                 ·replace c40 := Bool.eq_false_iff.mpr c40; subst c40; have H1 : (if 0 ≤ x14_5 then (trellisref13_actions.l1 k5 l1 a3 x9_2 x10_2 (((rd_T93 x9_2 x14_5).f0) == x347000_26 && (((rd_T93 x9_2 x14_5).f1) == x347001_26)) (wrap64 (x14_5 + 1)) l0_0 l0_1 l0_2 x347000_26 x347001_26) else (none)) = some r := by rw [if_neg (show ¬ (false = true) by decide)] at H; exact H
                  clear H; have H := H1; clear H1; by_cases c42 : 0 ≤ x14_5
                  ·rw [if_pos c42] at H; have c42b0 : decide (0 ≤ x14_5) = true := decide_eq_true c42; clear c42; have H' := zaj.mk H; clear H; obtain ⟨Ao43, co43, eo43⟩ := Kd.R_slice HO_9.out; subst eo43; have p347 : 0 ≤ (x14_5 : Int) := of_decide_eq_true (by first | (with_reducible assumption) | assumption)
                   have q347 : x14_5 < (x9_2.length : Int) := of_decide_eq_true (by first | (with_reducible assumption) | assumption)
                   obtain ⟨ad347, e347, hx347_0, hx347_1⟩ := at_T93 (Kd.zbh HO_9.out).2.2 x14_5 p347 q347; cases e347; replace p347 := eq_true p347; replace q347 := eq_true q347; have hnb44 := NB346_337.out; have hnc44 := NB337_346.out; have hnb45 := NB346_344.out; have hnc45 := NB344_346.out; have hcz46_0 : wr.cell? ⟨gb346, 0, none⟩ = some (.int .i64 x347000_26) := (zaa BK346.out 0).trans rfl; have hcz46_1 : wr.cell? ⟨gb346, 1, none⟩ = some (.int .i64 x347001_26) := (zaa BK346.out 1).trans rfl; have hfz46_0 := zae BK346.out 0; have hfz46_1 := zae BK346.out 1; go_wp2
                   repeat (go_quiet (fail); try go_wp2)
                   go_roundg k5
                   case measure => have := HJ6.out; have := HK2.out; have := HJ13.out; have := HJ26.out; have := HK5.out; omega
                   case rel => exact ⟨((((rd_T93 x9_2 x14_5).f0) == x347000_26 && (((rd_T93 x9_2 x14_5).f1) == x347001_26))), (wrap64 (x14_5 + 1)), (by first | rfl | (simp; done) | (simp [*]; done)), (by first | rfl | (simp; done) | (simp [*]; done)), H', ⟨by have := HJ6.out; have := HK2.out; have := HJ13.out; have := HJ26.out; have := HK5.out; omega⟩, ⟨by (with_reducible repeat (first | apply Kd.zbk | apply Kd.R_drewN | apply Kd.R_drew)); exact HO_9.out⟩, ⟨by (with_reducible repeat (first | apply zai | apply zah | apply zad)); exact BK337.out⟩, ⟨by (with_reducible repeat (first | apply zai | apply zah | apply zad)); exact BK344.out⟩, ⟨by (with_reducible repeat (first | apply zai | apply zah | apply zad)); exact BK346.out⟩, ⟨by repeat (first | (with_reducible first | exact HB.out | apply zac | apply zab | apply below_drew1 | refine zaf ?_ GE337.out | refine zaf ?_ GE344.out | refine zaf ?_ GE346.out) | exact HB.out)⟩⟩
                  ·rw [if_neg c42] at H; exact absurd H (by simp)
                ·rw [if_neg c39] at H; have c39b0 : decide (x14_5 < (x9_2.length : Int)) = false := decide_eq_false c39; clear c39; by_cases c47 : x13_5 = true
                 ·subst c47; have H1 : (trellisref13_actions.l0 k5 l1 a3 x9_2 (wrap64 (x10_2 + 1)) l0_0 l0_1 l0_2) = some r := by rw [if_pos rfl] at H; exact H
                  clear H; have H := H1; clear H1; have H' := zaj.mk H; clear H; obtain ⟨Ao48, co48, eo48⟩ := Kd.R_slice HO_9.out; subst eo48; go_wp2
                  repeat (go_quiet (fail); try go_wp2)
                  go_roundg k5
                  case measure => have := HJ6.out; have := HK2.out; have := HJ13.out; have := HJ26.out; have := HK5.out; omega
                  case rel => exact ⟨(x9_2), (wrap64 (x10_2 + 1)), (by first | rfl | (simp; done) | (simp [*]; done)), H', ⟨by have := HJ6.out; have := HK2.out; have := HJ13.out; have := HJ26.out; have := HK5.out; omega⟩, ⟨by (with_reducible repeat (first | apply Kd.zbk | apply Kd.R_drewN | apply Kd.R_drew)); exact Kd.R_mono HO_9.out (fun _ hk => trivial)⟩, ⟨by (with_reducible repeat (first | apply zai | apply zah | apply zad)); exact BK337.out⟩, ⟨by repeat (first | (with_reducible first | exact HB.out | apply zac | apply zab | apply below_drew1 | refine zaf ?_ GE337.out | refine zaf ?_ GE344.out | refine zaf ?_ GE346.out) | exact HB.out)⟩⟩
                 ·replace c47 := Bool.eq_false_iff.mpr c47; subst c47; have H1 : (if x9_2.length < 8796093022208 then (trellisref13_actions.l0 k5 l1 a3 (x9_2 ++ [(⟨x347000_26, x347001_26⟩ : S93)]) (wrap64 (x10_2 + 1)) l0_0 l0_1 l0_2) else (none)) = some r := by rw [if_neg (show ¬ (false = true) by decide)] at H; exact H
                  clear H; have H := H1; clear H1; by_cases c49 : x9_2.length < 8796093022208
                  ·rw [if_pos c49] at H; have LMc49 := zaj.mk c49; clear c49; obtain ⟨y348, hy348⟩ : ∃ y_ : List (S93), y_ = (x9_2 ++ [(⟨x347000_26, x347001_26⟩ : S93)]) := ⟨_, rfl⟩; replace H : (trellisref13_actions.l0 k5 l1 a3 y348 (wrap64 (x10_2 + 1)) l0_0 l0_1 l0_2) = some r := by first | (rw [hy348]; with_reducible exact H) | (have H2_ := (Option.bind_some _ _).symm.trans H; rw [hy348]; with_reducible exact H2_) | (have H2_ := (Option.bind_some _ _).symm.trans H; with_reducible exact H2_) | with_reducible exact H | (rw [hy348]; exact H) | exact H
                   have Ny348 := zaj.mk hy348; clear hy348; have H' := zaj.mk H; clear H; obtain ⟨Ao50, co50, eo50⟩ := Kd.R_slice HO_9.out; subst eo50; have hnb51 := NB346_337.out; have hnc51 := NB337_346.out; have hnb52 := NB346_344.out; have hnc52 := NB344_346.out; have hcz53_0 : wr.cell? ⟨gb346, 0, none⟩ = some (.int .i64 x347000_26) := (zaa BK346.out 0).trans rfl; have hcz53_1 : wr.cell? ⟨gb346, 1, none⟩ = some (.int .i64 x347001_26) := (zaa BK346.out 1).trans rfl; have hfz53_0 := zae BK346.out 0; have hfz53_1 := zae BK346.out 1
                   go_wp2_with (first | ((with_reducible refine zay (b := .append) (xs := #[.tmp 79, .tmp 81]) rfl ?_); (try (refine zaz (by rfl) ?_; dsimp only)); at_builtin; refine Kd.R_append k93 (w0 := w) w.heap.size rfl (.tmp 79) (.tmp 81) 90 93 (.agg #[(.int .i64 0), (.int .i64 0)]) 16 rfl Tryd.underlying90 info93 rfl (by decide) (by omega) (.slice Ao50 x9_2.length co50) x9_2 (⟨x347000_26, x347001_26⟩ : S93) [.int .i64 x347000_26, .int .i64 x347001_26] (fun k_ => k_ ≠ gb346) (fun _ => False) rfl rfl ?aP (fun _ hk => hk.elim) ?aF ?aO ?aB ?aS ?aL ?_; (case aP => exact k93_mkM _ _ _ (⟨x347000_26, x347001_26⟩ : S93)); (case aB => exact (by repeat (first | (with_reducible first | exact HB.out | apply zac | apply zab | apply below_drew1 | refine zaf ?_ GE337.out | refine zaf ?_ GE344.out | refine zaf ?_ GE346.out) | exact HB.out))); (case aF => exact (fun k_ hk => Kd.freshB (g := gb346) (o := .cells #[.int .i64 x347000_26, .int .i64 x347001_26] 93 (0, 0)) (by (with_reducible repeat (first | apply zai | apply zah | apply zad)); exact BK346.out) k_ hk)); (case aO => exact (by (with_reducible repeat (first | apply Kd.zbk | apply Kd.R_drewN | apply Kd.R_drew)); exact HO_9.out)); (case aS => exact (zao (by repeat (first | (with_reducible first | exact HB.out | apply zac | apply zab | apply below_drew1 | refine zaf ?_ GE337.out | refine zaf ?_ GE344.out | refine zaf ?_ GE346.out) | exact HB.out)))); (case aL => have := LMc49.out; omega); intro v349 w54 ho hb hg hat; rw [← Ny348.out] at ho; have n0_ := zaj.mk (zas (g := gb337) (o := .cells #[.slice A0_0 l0_0.length c0_0, .slice A0_1 l0_1.length c0_1, .slice A0_2 l0_2.length c0_2] 51 (0, 0)) (by (with_reducible repeat (first | apply zai | apply zah | apply zad)); exact BK337.out) hg (Kd.R_ne HO_9.out BK337.out (by decide))); have n1_ := zaj.mk (zas (g := gb344) (o := .cells #[.int .i64 ((zaq l1 x10_2).f0), .int .i64 ((zaq l1 x10_2).f1), .int .i64 ((zaq l1 x10_2).f2)] 178 (0, 0)) (by (with_reducible repeat (first | apply zai | apply zah | apply zad)); exact BK344.out) hg (Kd.R_ne HO_9.out BK344.out (by decide))); have n2_ := zaj.mk (zas (g := gb346) (o := .cells #[.int .i64 x347000_26, .int .i64 x347001_26] 93 (0, 0)) (by (with_reducible repeat (first | apply zai | apply zah | apply zad)); exact BK346.out) hg (Kd.R_away HO_9.out (fun _ hk => hk))); have n3_ := zaj.mk (hb); have n4_ := zaj.mk (ho); clear BK337; clear BK344; clear BK346; clear HB; clear HO_9; have BK337 := n0_; have BK344 := n1_; have BK346 := n2_; have HB := n3_; have HO350 := n4_; clear n0_ n1_ n2_ n3_ n4_; clear ho hb hg hat))
                   repeat (go_quiet (first | ((with_reducible refine zay (b := .append) (xs := #[.tmp 79, .tmp 81]) rfl ?_); (try (refine zaz (by rfl) ?_; dsimp only)); at_builtin; refine Kd.R_append k93 (w0 := w) w.heap.size rfl (.tmp 79) (.tmp 81) 90 93 (.agg #[(.int .i64 0), (.int .i64 0)]) 16 rfl Tryd.underlying90 info93 rfl (by decide) (by omega) (.slice Ao50 x9_2.length co50) x9_2 (⟨x347000_26, x347001_26⟩ : S93) [.int .i64 x347000_26, .int .i64 x347001_26] (fun k_ => k_ ≠ gb346) (fun _ => False) rfl rfl ?aP (fun _ hk => hk.elim) ?aF ?aO ?aB ?aS ?aL ?_; (case aP => exact k93_mkM _ _ _ (⟨x347000_26, x347001_26⟩ : S93)); (case aB => exact (by repeat (first | (with_reducible first | exact HB.out | apply zac | apply zab | apply below_drew1 | refine zaf ?_ GE337.out | refine zaf ?_ GE344.out | refine zaf ?_ GE346.out) | exact HB.out))); (case aF => exact (fun k_ hk => Kd.freshB (g := gb346) (o := .cells #[.int .i64 x347000_26, .int .i64 x347001_26] 93 (0, 0)) (by (with_reducible repeat (first | apply zai | apply zah | apply zad)); exact BK346.out) k_ hk)); (case aO => exact (by (with_reducible repeat (first | apply Kd.zbk | apply Kd.R_drewN | apply Kd.R_drew)); exact HO_9.out)); (case aS => exact (zao (by repeat (first | (with_reducible first | exact HB.out | apply zac | apply zab | apply below_drew1 | refine zaf ?_ GE337.out | refine zaf ?_ GE344.out | refine zaf ?_ GE346.out) | exact HB.out)))); (case aL => have := LMc49.out; omega); intro v349 w54 ho hb hg hat; rw [← Ny348.out] at ho; have n0_ := zaj.mk (zas (g := gb337) (o := .cells #[.slice A0_0 l0_0.length c0_0, .slice A0_1 l0_1.length c0_1, .slice A0_2 l0_2.length c0_2] 51 (0, 0)) (by (with_reducible repeat (first | apply zai | apply zah | apply zad)); exact BK337.out) hg (Kd.R_ne HO_9.out BK337.out (by decide))); have n1_ := zaj.mk (zas (g := gb344) (o := .cells #[.int .i64 ((zaq l1 x10_2).f0), .int .i64 ((zaq l1 x10_2).f1), .int .i64 ((zaq l1 x10_2).f2)] 178 (0, 0)) (by (with_reducible repeat (first | apply zai | apply zah | apply zad)); exact BK344.out) hg (Kd.R_ne HO_9.out BK344.out (by decide))); have n2_ := zaj.mk (zas (g := gb346) (o := .cells #[.int .i64 x347000_26, .int .i64 x347001_26] 93 (0, 0)) (by (with_reducible repeat (first | apply zai | apply zah | apply zad)); exact BK346.out) hg (Kd.R_away HO_9.out (fun _ hk => hk))); have n3_ := zaj.mk (hb); have n4_ := zaj.mk (ho); clear BK337; clear BK344; clear BK346; clear HB; clear HO_9; have BK337 := n0_; have BK344 := n1_; have BK346 := n2_; have HB := n3_; have HO350 := n4_; clear n0_ n1_ n2_ n3_ n4_; clear ho hb hg hat)); try go_wp2_with (first | ((with_reducible refine zay (b := .append) (xs := #[.tmp 79, .tmp 81]) rfl ?_); (try (refine zaz (by rfl) ?_; dsimp only)); at_builtin; refine Kd.R_append k93 (w0 := w) w.heap.size rfl (.tmp 79) (.tmp 81) 90 93 (.agg #[(.int .i64 0), (.int .i64 0)]) 16 rfl Tryd.underlying90 info93 rfl (by decide) (by omega) (.slice Ao50 x9_2.length co50) x9_2 (⟨x347000_26, x347001_26⟩ : S93) [.int .i64 x347000_26, .int .i64 x347001_26] (fun k_ => k_ ≠ gb346) (fun _ => False) rfl rfl ?aP (fun _ hk => hk.elim) ?aF ?aO ?aB ?aS ?aL ?_; (case aP => exact k93_mkM _ _ _ (⟨x347000_26, x347001_26⟩ : S93)); (case aB => exact (by repeat (first | (with_reducible first | exact HB.out | apply zac | apply zab | apply below_drew1 | refine zaf ?_ GE337.out | refine zaf ?_ GE344.out | refine zaf ?_ GE346.out) | exact HB.out))); (case aF => exact (fun k_ hk => Kd.freshB (g := gb346) (o := .cells #[.int .i64 x347000_26, .int .i64 x347001_26] 93 (0, 0)) (by (with_reducible repeat (first | apply zai | apply zah | apply zad)); exact BK346.out) k_ hk)); (case aO => exact (by (with_reducible repeat (first | apply Kd.zbk | apply Kd.R_drewN | apply Kd.R_drew)); exact HO_9.out)); (case aS => exact (zao (by repeat (first | (with_reducible first | exact HB.out | apply zac | apply zab | apply below_drew1 | refine zaf ?_ GE337.out | refine zaf ?_ GE344.out | refine zaf ?_ GE346.out) | exact HB.out)))); (case aL => have := LMc49.out; omega); intro v349 w54 ho hb hg hat; rw [← Ny348.out] at ho; have n0_ := zaj.mk (zas (g := gb337) (o := .cells #[.slice A0_0 l0_0.length c0_0, .slice A0_1 l0_1.length c0_1, .slice A0_2 l0_2.length c0_2] 51 (0, 0)) (by (with_reducible repeat (first | apply zai | apply zah | apply zad)); exact BK337.out) hg (Kd.R_ne HO_9.out BK337.out (by decide))); have n1_ := zaj.mk (zas (g := gb344) (o := .cells #[.int .i64 ((zaq l1 x10_2).f0), .int .i64 ((zaq l1 x10_2).f1), .int .i64 ((zaq l1 x10_2).f2)] 178 (0, 0)) (by (with_reducible repeat (first | apply zai | apply zah | apply zad)); exact BK344.out) hg (Kd.R_ne HO_9.out BK344.out (by decide))); have n2_ := zaj.mk (zas (g := gb346) (o := .cells #[.int .i64 x347000_26, .int .i64 x347001_26] 93 (0, 0)) (by (with_reducible repeat (first | apply zai | apply zah | apply zad)); exact BK346.out) hg (Kd.R_away HO_9.out (fun _ hk => hk))); have n3_ := zaj.mk (hb); have n4_ := zaj.mk (ho); clear BK337; clear BK344; clear BK346; clear HB; clear HO_9; have BK337 := n0_; have BK344 := n1_; have BK346 := n2_; have HB := n3_; have HO350 := n4_; clear n0_ n1_ n2_ n3_ n4_; clear ho hb hg hat)))
                   go_roundg k5
                   case measure => have := HJ6.out; have := HK2.out; have := HJ13.out; have := HJ26.out; have := HK5.out; omega
                   case rel => exact ⟨(y348), (wrap64 (x10_2 + 1)), (by first | rfl | (simp; done) | (simp [*]; done)), H', ⟨by have := HJ6.out; have := HK2.out; have := HJ13.out; have := HJ26.out; have := HK5.out; omega⟩, ⟨by (with_reducible repeat (first | apply Kd.zbk | apply Kd.R_drewN | apply Kd.R_drew)); exact Kd.R_mono HO350.out (fun _ hk => trivial)⟩, ⟨by (with_reducible repeat (first | apply zai | apply zah | apply zad)); exact BK337.out⟩, ⟨by repeat (first | (with_reducible first | exact HB.out | apply zac | apply zab | apply below_drew1 | refine zaf ?_ GE337.out | refine zaf ?_ GE344.out | refine zaf ?_ GE346.out) | exact HB.out)⟩⟩
                  ·rw [if_neg c49] at H; exact absurd H (by simp)
        ·rw [if_neg c13] at H; exact absurd H (by simp)
       ·rw [if_neg c12] at H; have c12b0 : decide (x10_2 < (l1.length : Int)) = false := decide_eq_false c12; clear c12; obtain rfl := Option.some.inj H; go_wp2
        repeat (go_quiet (fail); try go_wp2)
        go_ret; exact ⟨_, by first | rfl | (simp [errW_none, errW_some] <;> rfl) | (simp [*, errW_none, errW_some] <;> rfl), by (with_reducible repeat (first | apply Kd.zbk | apply Kd.R_drewN | apply Kd.R_drew)); exact HO_9.out, by repeat (first | (with_reducible first | exact HB.out | apply zac | apply zab | apply below_drew1 | refine zaf ?_ GE337.out) | exact HB.out)⟩
  ·rw [if_neg c6] at H; exact absurd H (by simp)
 ·rw [if_neg c5] at H; exact absurd H (by simp)
end Go.Proofs.YtcijanmckhlpiaaDoor.PTableBuilds
