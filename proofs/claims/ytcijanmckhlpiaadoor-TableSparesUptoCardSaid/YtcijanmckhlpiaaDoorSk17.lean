-- Texts of this seat, cut to what is used and merged (by shake.py).
import Derived.Test.YtcijanmckhlpiaaDoorSk16
set_option linter.unusedVariables false
set_option linter.unusedSimpArgs false
namespace Go.Proofs.YtcijanmckhlpiaaDoor.PTableBack
open Go.RowKit Go.Proofs.YtcijanmckhlpiaaDoorW.PrintWords Go.Proofs.YtcijanmckhlpiaaDoorW.PrintLast Go.Proofs.YtcijanmckhlpiaaDoorW.PrintMore
attribute [local go_sem] max2_int min2_int max_two min_two max_three min_three max_four min_four
mutual
def table_shaped.j0 : Nat → Int → Bool → List (List (S93)) → List (List Int) → Option (Bool)
 | 0, _, _, _, _ => none
 | k + 1, x3, x26, x201000, x201001 => if x26 = true then (some false) else (if 0 < (x201000.length : Int) then (if 0 < (x201001.length : Int) then (if ((rd_L2 x201000 0).length : Int) = 0 then (table_shaped.j1 k x3 ((rd_L2 x201000 0).length : Int) ((rd_L3 x201001 0).length : Int) true x201000 x201001) else (if ((rd_L2 x201000 0).length : Int) > 64 then (table_shaped.j1 k x3 ((rd_L2 x201000 0).length : Int) ((rd_L3 x201001 0).length : Int) true x201000 x201001) else (table_shaped.j1 k x3 ((rd_L2 x201000 0).length : Int) ((rd_L3 x201001 0).length : Int) (decide (((rd_L3 x201001 0).length : Int) > 128)) x201000 x201001))) else (none)) else (none))
def table_shaped.j1 : Nat → Int → Int → Int → Bool → List (List (S93)) → List (List Int) → Option (Bool)
 | 0, _, _, _, _, _, _ => none
 | k + 1, x3, x4, x5, x46, x201000, x201001 => if x46 = true then (some false) else (table_shaped.l0 k x3 x4 x5 x3 0 x201000 x201001)
def table_shaped.l0 : Nat → Int → Int → Int → Int → Int → List (List (S93)) → List (List Int) → Option (Bool)
 | 0, _, _, _, _, _, _, _ => none
 | k + 1, x3, x4, x5, x47, x48, x201000, x201001 => if x48 < x47 then (if 0 ≤ x48 then (if x48 < (x201000.length : Int) then (if ((rd_L2 x201000 x48).length : Int) = x4 then (if x48 < (x201001.length : Int) then (table_shaped.j3 k x3 x4 x5 x48 x47 x48 (((rd_L3 x201001 x48).length : Int) != x5) x201000 x201001) else (none)) else (table_shaped.j3 k x3 x4 x5 x48 x47 x48 true x201000 x201001)) else (none)) else (none)) else (some true)
def table_shaped.j3 : Nat → Int → Int → Int → Int → Int → Int → Bool → List (List (S93)) → List (List Int) → Option (Bool)
 | 0, _, _, _, _, _, _, _, _, _ => none
 | k + 1, x3, x4, x5, x6, x47, x48, x68, x201000, x201001 => if x68 = true then (some false) else (if 0 ≤ x6 then (if x6 < (x201000.length : Int) then (table_shaped.l1 k x3 x4 x5 x6 x47 x48 (rd_L2 x201000 x6) ((rd_L2 x201000 x6).length : Int) 0 x201000 x201001) else (none)) else (none))
def table_shaped.l1 : Nat → Int → Int → Int → Int → Int → Int → List (S93) → Int → Int → List (List (S93)) → List (List Int) → Option (Bool)
 | 0, _, _, _, _, _, _, _, _, _, _, _ => none
 | k + 1, x3, x4, x5, x6, x47, x48, x73, x74, x75, x201000, x201001 => if x75 < x74 then (if 0 ≤ x75 then (if x75 < (x73.length : Int) then ((table_fits.f k ((rd_T93 x73 x75).f0) ((rd_T93 x73 x75).f1) x3).bind fun t208 => (if t208 = true then (table_shaped.l1 k x3 x4 x5 x6 x47 x48 x73 x74 (wrap64 (x75 + 1)) x201000 x201001) else (some false))) else (none)) else (none)) else (if 0 ≤ x6 then (if x6 < (x201001.length : Int) then (table_shaped.l2 k x3 x4 x5 x47 x48 (rd_L3 x201001 x6) ((rd_L3 x201001 x6).length : Int) 0 x201000 x201001) else (none)) else (none))
def table_shaped.l2 : Nat → Int → Int → Int → Int → Int → List Int → Int → Int → List (List (S93)) → List (List Int) → Option (Bool)
 | 0, _, _, _, _, _, _, _, _, _, _ => none
 | k + 1, x3, x4, x5, x47, x48, x88, x89, x90, x201000, x201001 => if x90 < x89 then (if 0 ≤ x90 then (if x90 < (x88.length : Int) then (if (rd x88 x90) < (-1) then (some false) else (if (rd x88 x90) ≥ x3 then (some false) else (table_shaped.l2 k x3 x4 x5 x47 x48 x88 x89 (wrap64 (x90 + 1)) x201000 x201001))) else (none)) else (none)) else (table_shaped.l0 k x3 x4 x5 x47 (wrap64 (x48 + 1)) x201000 x201001)
end
def table_shaped.f (k : Nat) (l0_0 : List (List (S93))) (l0_1 : List (List Int)) : Option (Bool) := if (l0_0.length : Int) = 0 then (table_shaped.j0 k (l0_0.length : Int) true l0_0 l0_1) else (if (l0_0.length : Int) > 2048 then (table_shaped.j0 k (l0_0.length : Int) true l0_0 l0_1) else (table_shaped.j0 k (l0_0.length : Int) ((l0_1.length : Int) != (l0_0.length : Int)) l0_0 l0_1))
set_option maxHeartbeats 8000000 in
set_option maxRecDepth 100000 in
theorem table_shaped.calls (k : Nat) (A0_0 : Option Addr) (c0_0 : Nat) (l0_0 : List (List (S93))) (A0_1 : Option Addr) (c0_1 : Nat) (l0_1 : List (List Int)) (r : Bool) (w : World) (hr0_0 : Kd.C (Kd.slice 93 k93) w A0_0 l0_0.length l0_0) (hc0_0 : l0_0.length ≤ c0_0) (hr0_1 : Kd.C (Kd.slice 3 (Kd.int .i64)) w A0_1 l0_1.length l0_1) (hc0_1 : l0_1.length ≤ c0_1) (h : table_shaped.f k l0_0 l0_1 = some r) :
  Calls Tryd.prog 46 #[.agg #[.slice A0_0 l0_0.length c0_0, .slice A0_1 l0_1.length c0_1]] w fun e w' => e = .returned (.bool r) ∧ Below w.heap.size w w' := by
 have hu25 := Tryd.underlying25; have hu93 := Tryd.underlying93; have HR0_0 := zaf.mk hr0_0; have HC0_0 := zaf.mk hc0_0; clear hr0_0 hc0_0; have HR0_1 := zaf.mk hr0_1; have HC0_1 := zaf.mk hc0_1; clear hr0_1 hc0_1; have HB := zaf.mk (Below.refl w.heap.size w); have H : (if (l0_0.length : Int) = 0 then (table_shaped.j0 k (l0_0.length : Int) true l0_0 l0_1) else (if (l0_0.length : Int) > 2048 then (table_shaped.j0 k (l0_0.length : Int) true l0_0 l0_1) else (table_shaped.j0 k (l0_0.length : Int) ((l0_1.length : Int) != (l0_0.length : Int)) l0_0 l0_1))) = some r := h
 clear h; have HC2 := zaf.mk H; clear H
 go_enter Tryd.func46, Tryd.ntmps46
 go_upto_region 2 with (first | ((with_reducible refine zbb (N := 1) rfl ?_); (try (refine zbd (by rfl) ?_; dsimp only)); refine zaz ?hg (N := 1) ?hd (cs := #[.slice A0_0 l0_0.length c0_0, .slice A0_1 l0_1.length c0_1]) (t := 25) ?hr ?_; (case hd => rfl); (case hg => rfl); (case hr => first | (go_simp; done) | (go_simp; rfl)); intro gb200 hg w3 hbox hb; have n0_ := zaf.mk (zam (by repeat (first | (with_reducible first | exact HB.out | apply zab | apply zaa | apply zah) | exact HB.out)) hb); have n1_ := zaf.mk (hbox); have n2_ := zaf.mk ((by rw [hg]; exact (zan (by repeat (first | (with_reducible first | exact HB.out | apply zab | apply zaa | apply zah) | exact HB.out))) : w.heap.size ≤ gb200)); have n3_ := zaf.mk ((by rw [hg]; exact (zan (by repeat (first | (with_reducible first | exact HB.out | apply zab | apply zaa | apply zah) | exact HB.out))) : w.heap.size ≤ gb200)); clear HB; have HB := n0_; have BK200 := n1_; have GW200 := n2_; have GE200 := n3_; clear n0_ n1_ n2_ n3_; clear hb hbox hg; have hcz4_0 : w3.cell? ⟨gb200, 0, none⟩ = some (.slice A0_0 l0_0.length c0_0) := (zac BK200.out 0).trans rfl; have hcz4_1 : w3.cell? ⟨gb200, 1, none⟩ = some (.slice A0_1 l0_1.length c0_1) := (zac BK200.out 1).trans rfl; have hfz4_0 := zak BK200.out 0; have hfz4_1 := zak BK200.out 1))
 repeat (go_quiet (first | ((with_reducible refine zbb (N := 1) rfl ?_); (try (refine zbd (by rfl) ?_; dsimp only)); refine zaz ?hg (N := 1) ?hd (cs := #[.slice A0_0 l0_0.length c0_0, .slice A0_1 l0_1.length c0_1]) (t := 25) ?hr ?_; (case hd => rfl); (case hg => rfl); (case hr => first | (go_simp; done) | (go_simp; rfl)); intro gb200 hg w3 hbox hb; have n0_ := zaf.mk (zam (by repeat (first | (with_reducible first | exact HB.out | apply zab | apply zaa | apply zah) | exact HB.out)) hb); have n1_ := zaf.mk (hbox); have n2_ := zaf.mk ((by rw [hg]; exact (zan (by repeat (first | (with_reducible first | exact HB.out | apply zab | apply zaa | apply zah) | exact HB.out))) : w.heap.size ≤ gb200)); have n3_ := zaf.mk ((by rw [hg]; exact (zan (by repeat (first | (with_reducible first | exact HB.out | apply zab | apply zaa | apply zah) | exact HB.out))) : w.heap.size ≤ gb200)); clear HB; have HB := n0_; have BK200 := n1_; have GW200 := n2_; have GE200 := n3_; clear n0_ n1_ n2_ n3_; clear hb hbox hg; have hcz4_0 : w3.cell? ⟨gb200, 0, none⟩ = some (.slice A0_0 l0_0.length c0_0) := (zac BK200.out 0).trans rfl; have hcz4_1 : w3.cell? ⟨gb200, 1, none⟩ = some (.slice A0_1 l0_1.length c0_1) := (zac BK200.out 1).trans rfl; have hfz4_0 := zak BK200.out 0; have hfz4_1 := zak BK200.out 1)); go_upto_region 2 with (first | ((with_reducible refine zbb (N := 1) rfl ?_); (try (refine zbd (by rfl) ?_; dsimp only)); refine zaz ?hg (N := 1) ?hd (cs := #[.slice A0_0 l0_0.length c0_0, .slice A0_1 l0_1.length c0_1]) (t := 25) ?hr ?_; (case hd => rfl); (case hg => rfl); (case hr => first | (go_simp; done) | (go_simp; rfl)); intro gb200 hg w3 hbox hb; have n0_ := zaf.mk (zam (by repeat (first | (with_reducible first | exact HB.out | apply zab | apply zaa | apply zah) | exact HB.out)) hb); have n1_ := zaf.mk (hbox); have n2_ := zaf.mk ((by rw [hg]; exact (zan (by repeat (first | (with_reducible first | exact HB.out | apply zab | apply zaa | apply zah) | exact HB.out))) : w.heap.size ≤ gb200)); have n3_ := zaf.mk ((by rw [hg]; exact (zan (by repeat (first | (with_reducible first | exact HB.out | apply zab | apply zaa | apply zah) | exact HB.out))) : w.heap.size ≤ gb200)); clear HB; have HB := n0_; have BK200 := n1_; have GW200 := n2_; have GE200 := n3_; clear n0_ n1_ n2_ n3_; clear hb hbox hg; have hcz4_0 : w3.cell? ⟨gb200, 0, none⟩ = some (.slice A0_0 l0_0.length c0_0) := (zac BK200.out 0).trans rfl; have hcz4_1 : w3.cell? ⟨gb200, 1, none⟩ = some (.slice A0_1 l0_1.length c0_1) := (zac BK200.out 1).trans rfl; have hfz4_0 := zak BK200.out 0; have hfz4_1 := zak BK200.out 1)))
 (try simp only [Act.put, List.setIfInBounds_toArray, List.set_cons_zero, List.set_cons_succ])
 go_cut [26] (fun v26 wc => ∃ (kq : Nat) (x26_1 : Bool), v26 = .bool x26_1 ∧ zaf (table_shaped.j0 kq (l0_0.length : Int) x26_1 l0_0 l0_1 = some r) ∧ zaf (kq ≤ k) ∧ zaf (wc.heap[gb200]? = some (.cells #[(.slice A0_0 l0_0.length c0_0), (.slice A0_1 l0_1.length c0_1)] 25 (0, 0))) ∧ zaf (Below w.heap.size w wc))
 case first =>
  have H := HC2.out; clear HC2; by_cases c5 : (l0_0.length : Int) = 0
  ·rw [if_pos c5] at H; have c5b0 : ((l0_0.length : Int) == 0) = true := beq_iff_eq.mpr c5; have c5b1 : ((l0_0.length : Int) != 0) = false := bne_eq_false_iff_eq.mpr c5; clear c5
   (first | rw [c5b0] | (simp only [i64_w, i32_w]; rw [c5b0]) | skip)
   have H' := zaf.mk H; clear H; go_wp2
   repeat (go_quiet (fail); try go_wp2)
   go_meet
   case rel => exact ⟨_, (true), (by first | rfl | (simp; done) | (simp [*]; done)), H', ⟨by first | omega | exact Nat.le_refl _⟩, ⟨by (with_reducible repeat (first | apply zai | apply zaj | apply zad)); exact BK200.out⟩, ⟨by repeat (first | (with_reducible first | exact HB.out | apply zab | apply zaa | apply zah | refine zae ?_ GE200.out) | exact HB.out)⟩⟩
  ·rw [if_neg c5] at H; have c5b0 : ((l0_0.length : Int) == 0) = false := beq_eq_false_iff_ne.mpr c5; have c5b1 : ((l0_0.length : Int) != 0) = true := bne_iff_ne.mpr c5; have c5b2 : ¬ (l0_0 = []) := fun h_ => c5 (by rw [h_]; rfl)
   (first | rw [c5b0] | (simp only [i64_w, i32_w]; rw [c5b0]) | skip)
   by_cases c6 : (l0_0.length : Int) > 2048
   ·rw [if_pos c6] at H; have c6b0 : decide (2048 < (l0_0.length : Int)) = true := decide_eq_true c6; have c6b1 : decide (2048 < l0_0.length) = true := decide_eq_true (by omega)
    clear c6; have H' := zaf.mk H; clear H; go_wp2
    repeat (go_quiet (fail); try go_wp2)
    go_meet
    case rel => exact ⟨_, (true), (by first | rfl | (simp; done) | (simp [*]; done)), H', ⟨by first | omega | exact Nat.le_refl _⟩, ⟨by (with_reducible repeat (first | apply zai | apply zaj | apply zad)); exact BK200.out⟩, ⟨by repeat (first | (with_reducible first | exact HB.out | apply zab | apply zaa | apply zah | refine zae ?_ GE200.out) | exact HB.out)⟩⟩
   ·rw [if_neg c6] at H; have c6b0 : decide (2048 < (l0_0.length : Int)) = false := decide_eq_false c6; have c6b1 : decide (2048 < l0_0.length) = false := decide_eq_false (by omega)
    clear c6; have H' := zaf.mk H; clear H; have hcz7_0 : w3.cell? ⟨gb200, 0, none⟩ = some (.slice A0_0 l0_0.length c0_0) := (zac BK200.out 0).trans rfl; have hcz7_1 : w3.cell? ⟨gb200, 1, none⟩ = some (.slice A0_1 l0_1.length c0_1) := (zac BK200.out 1).trans rfl; have hfz7_0 := zak BK200.out 0; have hfz7_1 := zak BK200.out 1; go_wp2
    repeat (go_quiet (fail); try go_wp2)
    go_meet
    case rel => exact ⟨_, (((l0_1.length : Int) != (l0_0.length : Int))), (by first | rfl | (simp; done) | (simp [*]; done)), H', ⟨by first | omega | exact Nat.le_refl _⟩, ⟨by (with_reducible repeat (first | apply zai | apply zaj | apply zad)); exact BK200.out⟩, ⟨by repeat (first | (with_reducible first | exact HB.out | apply zab | apply zaa | apply zah | refine zae ?_ GE200.out) | exact HB.out)⟩⟩
 case rest =>
  clear HC2
  try clear p2
  try clear c4
  try clear c5
  try clear c5b0
  try clear c5b1
  try clear c5b2
  try clear c6
  try clear c6b0
  try clear c6b1
  try clear hcz4_0
  try clear hcz4_1
  try clear hcz7_0
  try clear hcz7_1
  try clear hfz4_0
  try clear hfz4_1
  try clear hfz7_0
  try clear hfz7_1
  obtain ⟨kq, x26_1, rfl, HA, HJ1, BK200, HB⟩ := hcut; cases kq with
  | zero => exact absurd HA.out (by simp [table_shaped.j0])
  | succ kj1 =>
   have H := HA.out; clear HA; simp only [table_shaped.j0] at H; by_cases c8 : x26_1 = true
   ·subst c8; have H1 : (some false) = some r := by rw [if_pos rfl] at H; exact H
    clear H; have H := H1; clear H1; obtain rfl := Option.some.inj H; go_wp2
    repeat (go_quiet (fail); try go_wp2)
    go_ret; exact ⟨by first | rfl | (simp [errW_none, errW_some] <;> rfl) | (simp [*, errW_none, errW_some] <;> rfl), by repeat (first | (with_reducible first | exact HB.out | apply zab | apply zaa | apply zah | refine zae ?_ GE200.out) | exact HB.out)⟩
   ·replace c8 := Bool.eq_false_iff.mpr c8; subst c8; have H1 : (if 0 < (l0_0.length : Int) then (if 0 < (l0_1.length : Int) then (if ((rd_L2 l0_0 0).length : Int) = 0 then (table_shaped.j1 kj1 (l0_0.length : Int) ((rd_L2 l0_0 0).length : Int) ((rd_L3 l0_1 0).length : Int) true l0_0 l0_1) else (if ((rd_L2 l0_0 0).length : Int) > 64 then (table_shaped.j1 kj1 (l0_0.length : Int) ((rd_L2 l0_0 0).length : Int) ((rd_L3 l0_1 0).length : Int) true l0_0 l0_1) else (table_shaped.j1 kj1 (l0_0.length : Int) ((rd_L2 l0_0 0).length : Int) ((rd_L3 l0_1 0).length : Int) (decide (((rd_L3 l0_1 0).length : Int) > 128)) l0_0 l0_1))) else (none)) else (none)) = some r := by rw [if_neg (show ¬ (false = true) by decide)] at H; exact H
    clear H; have H := H1; clear H1; by_cases c9 : 0 < (l0_0.length : Int)
    ·rw [if_pos c9] at H; have c9b0 : decide (0 < (l0_0.length : Int)) = true := decide_eq_true c9; have c9b1 : decide (0 < l0_0.length) = true := decide_eq_true (by omega)
     clear c9; by_cases c10 : 0 < (l0_1.length : Int)
     ·rw [if_pos c10] at H; have c10b0 : decide (0 < (l0_1.length : Int)) = true := decide_eq_true c10; have c10b1 : decide (0 < l0_1.length) = true := decide_eq_true (by omega)
      clear c10; have HC11 := zaf.mk H; clear H; have hcz12_0 : wc.cell? ⟨gb200, 0, none⟩ = some (.slice A0_0 l0_0.length c0_0) := (zac BK200.out 0).trans rfl; have hcz12_1 : wc.cell? ⟨gb200, 1, none⟩ = some (.slice A0_1 l0_1.length c0_1) := (zac BK200.out 1).trans rfl; have hfz12_0 := zak BK200.out 0; have hfz12_1 := zak BK200.out 1; have p201 : 0 ≤ (0 : Int) := (by omega)
      have q201 : 0 < (l0_0.length : Int) := of_decide_eq_true (by first | (with_reducible assumption) | assumption)
      obtain ⟨ad201, A201_0, c201_0, e201, hx201_0, hl201_0, hi201_0⟩ := at_L2 HR0_0.out 0 p201 q201; cases e201; have qi201 : (0 < l0_0.length) = True := eq_true (by omega)
      (try rw [show ((0 : Int)).toNat = 0 from rfl] at hx201_0)
      (try rw [Addr.add_zero'] at hx201_0)
      replace hx201_0 := (HB.out.cell (World.block_lt_of_cell? w _ hx201_0)).trans hx201_0; have HR201_0 := zaf.mk hi201_0; have HC201_0 := zaf.mk hl201_0; clear hi201_0 hl201_0; replace p201 := eq_true p201; replace q201 := eq_true q201; have p202 : 0 ≤ (0 : Int) := (by omega)
      have q202 : 0 < (l0_1.length : Int) := of_decide_eq_true (by first | (with_reducible assumption) | assumption)
      obtain ⟨ad202, A202_0, c202_0, e202, hx202_0, hl202_0, hi202_0⟩ := at_L3 HR0_1.out 0 p202 q202; cases e202; have qi202 : (0 < l0_1.length) = True := eq_true (by omega)
      (try rw [show ((0 : Int)).toNat = 0 from rfl] at hx202_0)
      (try rw [Addr.add_zero'] at hx202_0)
      replace hx202_0 := (HB.out.cell (World.block_lt_of_cell? w _ hx202_0)).trans hx202_0; have HR202_0 := zaf.mk hi202_0; have HC202_0 := zaf.mk hl202_0; clear hi202_0 hl202_0; replace p202 := eq_true p202; replace q202 := eq_true q202
      go_upto_region 5 with (fail)
      repeat (go_quiet (fail); go_upto_region 5 with (fail))
      go_cut [46] (fun v46 wc => ∃ (kq : Nat) (x46_10 : Bool), v46 = .bool x46_10 ∧ zaf (table_shaped.j1 kq (l0_0.length : Int) ((rd_L2 l0_0 0).length : Int) ((rd_L3 l0_1 0).length : Int) x46_10 l0_0 l0_1 = some r) ∧ zaf (kq ≤ kj1) ∧ zaf (wc.heap[gb200]? = some (.cells #[(.slice (some ad201) l0_0.length c0_0), (.slice (some ad202) l0_1.length c0_1)] 25 (0, 0))) ∧ zaf (Below w.heap.size w wc))
      case first =>
       have H := HC11.out; clear HC11; by_cases c13 : ((rd_L2 l0_0 0).length : Int) = 0
       ·rw [if_pos c13] at H; have c13b0 : (((rd_L2 l0_0 0).length : Int) == 0) = true := beq_iff_eq.mpr c13; have c13b1 : (((rd_L2 l0_0 0).length : Int) != 0) = false := bne_eq_false_iff_eq.mpr c13; clear c13
        (first | rw [c13b0] | (simp only [i64_w, i32_w]; rw [c13b0]) | skip)
        have H' := zaf.mk H; clear H; go_wp2
        repeat (go_quiet (fail); try go_wp2)
        go_meet
        case rel => exact ⟨_, (true), (by first | rfl | (simp; done) | (simp [*]; done)), H', ⟨by have := HJ1.out; first | omega | exact Nat.le_refl _⟩, ⟨by (with_reducible repeat (first | apply zai | apply zaj | apply zad)); exact BK200.out⟩, ⟨by repeat (first | (with_reducible first | exact HB.out | apply zab | apply zaa | apply zah | refine zae ?_ GE200.out) | exact HB.out)⟩⟩
       ·rw [if_neg c13] at H; have c13b0 : (((rd_L2 l0_0 0).length : Int) == 0) = false := beq_eq_false_iff_ne.mpr c13; have c13b1 : (((rd_L2 l0_0 0).length : Int) != 0) = true := bne_iff_ne.mpr c13; have c13b2 : ¬ ((rd_L2 l0_0 0) = []) := fun h_ => c13 (by rw [h_]; rfl)
        (first | rw [c13b0] | (simp only [i64_w, i32_w]; rw [c13b0]) | skip)
        by_cases c14 : ((rd_L2 l0_0 0).length : Int) > 64
        ·rw [if_pos c14] at H; have c14b0 : decide (64 < ((rd_L2 l0_0 0).length : Int)) = true := decide_eq_true c14; have c14b1 : decide (64 < (rd_L2 l0_0 0).length) = true := decide_eq_true (by omega)
         clear c14; have H' := zaf.mk H; clear H; go_wp2
         repeat (go_quiet (fail); try go_wp2)
         go_meet
         case rel => exact ⟨_, (true), (by first | rfl | (simp; done) | (simp [*]; done)), H', ⟨by have := HJ1.out; first | omega | exact Nat.le_refl _⟩, ⟨by (with_reducible repeat (first | apply zai | apply zaj | apply zad)); exact BK200.out⟩, ⟨by repeat (first | (with_reducible first | exact HB.out | apply zab | apply zaa | apply zah | refine zae ?_ GE200.out) | exact HB.out)⟩⟩
        ·rw [if_neg c14] at H; have c14b0 : decide (64 < ((rd_L2 l0_0 0).length : Int)) = false := decide_eq_false c14; have c14b1 : decide (64 < (rd_L2 l0_0 0).length) = false := decide_eq_false (by omega)
         clear c14; have H' := zaf.mk H; clear H; go_wp2
         repeat (go_quiet (fail); try go_wp2)
         go_meet
         case rel => exact ⟨_, (decide (((rd_L3 l0_1 0).length : Int) > 128)), (by first | rfl | (simp; done) | (simp [*]; done)), H', ⟨by have := HJ1.out; first | omega | exact Nat.le_refl _⟩, ⟨by (with_reducible repeat (first | apply zai | apply zaj | apply zad)); exact BK200.out⟩, ⟨by repeat (first | (with_reducible first | exact HB.out | apply zab | apply zaa | apply zah | refine zae ?_ GE200.out) | exact HB.out)⟩⟩
      case rest =>
       clear HC11
       try clear c1
       try clear c2
       try clear p2
       try clear q2
       try clear hx2
       try clear qi2
       try clear c4
       try clear c5
       try clear c5b0
       try clear c5b1
       try clear c5b2
       try clear c6
       try clear c6b0
       try clear c6b1
       try clear c8
       try clear c9
       try clear c9b0
       try clear c9b1
       try clear c10
       try clear c10b0
       try clear c10b1
       try clear c13
       try clear c13b0
       try clear c13b1
       try clear c13b2
       try clear c14
       try clear c14b0
       try clear c14b1
       try clear hcz12_0
       try clear hcz12_1
       try clear hcz4_0
       try clear hcz4_1
       try clear hcz7_0
       try clear hcz7_1
       try clear hfz12_0
       try clear hfz12_1
       try clear hfz4_0
       try clear hfz4_1
       try clear hfz7_0
       try clear hfz7_1
       try clear hx201_0
       try clear hx202_0
       try clear p2
       try clear p201
       try clear p202
       try clear q201
       try clear q202
       obtain ⟨kq, x46_10, rfl, HA, HJ10, BK200, HB⟩ := hcut; cases kq with
       | zero => exact absurd HA.out (by simp [table_shaped.j1])
       | succ kj10 =>
        have H := HA.out; clear HA; simp only [table_shaped.j1] at H; by_cases c15 : x46_10 = true
        ·subst c15; have H1 : (some false) = some r := by rw [if_pos rfl] at H; exact H
         clear H; have H := H1; clear H1; obtain rfl := Option.some.inj H; go_wp2
         repeat (go_quiet (fail); try go_wp2)
         go_ret; exact ⟨by first | rfl | (simp [errW_none, errW_some] <;> rfl) | (simp [*, errW_none, errW_some] <;> rfl), by repeat (first | (with_reducible first | exact HB.out | apply zab | apply zaa | apply zah | refine zae ?_ GE200.out) | exact HB.out)⟩
        ·replace c15 := Bool.eq_false_iff.mpr c15; subst c15; have H1 : (table_shaped.l0 kj10 (l0_0.length : Int) ((rd_L2 l0_0 0).length : Int) ((rd_L3 l0_1 0).length : Int) (l0_0.length : Int) 0 l0_0 l0_1) = some r := by rw [if_neg (show ¬ (false = true) by decide)] at H; exact H
         clear H; have H := H1; clear H1; have H' := zaf.mk H; clear H; go_wp2
         repeat (go_quiet (fail); try go_wp2)
         go_loopg [48] kj10 (fun kq v48 w' => ∃ (x48_3 : Int), v48 = .int .i64 x48_3 ∧ zaf (table_shaped.l0 kq (l0_0.length : Int) ((rd_L2 l0_0 0).length : Int) ((rd_L3 l0_1 0).length : Int) (l0_0.length : Int) x48_3 l0_0 l0_1 = some r) ∧ zaf (kq ≤ kj10) ∧ zaf (w'.heap[gb200]? = some (.cells #[(.slice (some ad201) l0_0.length c0_0), (.slice (some ad202) l0_1.length c0_1)] 25 (0, 0))) ∧ zaf (Below w.heap.size w w'))
         case atStart => exact ⟨(0), (by first | rfl | (simp; done) | (simp [*]; done)), H', ⟨Nat.le_refl _⟩, ⟨by (with_reducible repeat (first | apply zai | apply zaj | apply zad)); exact BK200.out⟩, ⟨by repeat (first | (with_reducible first | exact HB.out | apply zab | apply zaa | apply zah | refine zae ?_ GE200.out) | exact HB.out)⟩⟩
         case round =>
          clear H'
          try clear c1
          try clear c2
          try clear p2
          try clear q2
          try clear hx2
          try clear qi2
          try clear c4
          try clear c5
          try clear c5b0
          try clear c5b1
          try clear c5b2
          try clear c6
          try clear c6b0
          try clear c6b1
          try clear c8
          try clear c9
          try clear c9b0
          try clear c9b1
          try clear c10
          try clear c10b0
          try clear c10b1
          try clear c13
          try clear c13b0
          try clear c13b1
          try clear c13b2
          try clear c14
          try clear c14b0
          try clear c14b1
          try clear c15
          try clear hcz12_0
          try clear hcz12_1
          try clear hcz4_0
          try clear hcz4_1
          try clear hcz7_0
          try clear hcz7_1
          try clear hfz12_0
          try clear hfz12_1
          try clear hfz4_0
          try clear hfz4_1
          try clear hfz7_0
          try clear hfz7_1
          try clear hx201_0
          try clear hx202_0
          try clear p2
          try clear p201
          try clear p202
          try clear q2
          try clear q201
          try clear q202
          obtain ⟨x48_3, rfl, HA, HK3, BK200, HB⟩ := hrel; cases gk with
          | zero => exact absurd HA.out (by simp [table_shaped.l0])
          | succ k3 =>
           have H := HA.out; clear HA; simp only [table_shaped.l0] at H; by_cases c16 : x48_3 < (l0_0.length : Int)
           ·rw [if_pos c16] at H; have c16b0 : decide (x48_3 < (l0_0.length : Int)) = true := decide_eq_true c16; clear c16; have HC17 := zaf.mk H; clear H
            go_upto_region 10 with (fail)
            repeat (go_quiet (fail); go_upto_region 10 with (fail))
            go_cut [68] (fun v68 wc => ∃ (kq : Nat) (x68_16 : Bool), v68 = .bool x68_16 ∧ zaf (table_shaped.j3 kq (l0_0.length : Int) ((rd_L2 l0_0 0).length : Int) ((rd_L3 l0_1 0).length : Int) x48_3 (l0_0.length : Int) x48_3 x68_16 l0_0 l0_1 = some r) ∧ zaf (kq ≤ k3) ∧ zaf (wc.heap[gb200]? = some (.cells #[(.slice (some ad201) l0_0.length c0_0), (.slice (some ad202) l0_1.length c0_1)] 25 (0, 0))) ∧ zaf (Below w.heap.size w wc))
            case first =>
             have H := HC17.out; clear HC17; by_cases c18 : 0 ≤ x48_3
             ·rw [if_pos c18] at H; have c18b0 : decide (0 ≤ x48_3) = true := decide_eq_true c18; clear c18
              (first | rw [c18b0] | (simp only [i64_w, i32_w]; rw [c18b0]) | skip)
              by_cases c19 : x48_3 < (l0_0.length : Int)
              ·rw [if_pos c19] at H; have c19b0 : decide (x48_3 < (l0_0.length : Int)) = true := decide_eq_true c19; clear c19; by_cases c20 : ((rd_L2 l0_0 x48_3).length : Int) = ((rd_L2 l0_0 0).length : Int)
               ·rw [if_pos c20] at H; have c20b0 : (((rd_L2 l0_0 x48_3).length : Int) == ((rd_L2 l0_0 0).length : Int)) = true := beq_iff_eq.mpr c20; have c20b1 : (((rd_L2 l0_0 x48_3).length : Int) != ((rd_L2 l0_0 0).length : Int)) = false := bne_eq_false_iff_eq.mpr c20; have c20b2 : ((rd_L2 l0_0 x48_3).length == (rd_L2 l0_0 0).length) = true := by first | simpa using c20 | (simp at c20 ⊢; omega)
                clear c20; by_cases c21 : x48_3 < (l0_1.length : Int)
                ·rw [if_pos c21] at H; have c21b0 : decide (x48_3 < (l0_1.length : Int)) = true := decide_eq_true c21; clear c21; have H' := zaf.mk H; clear H; have hcz22_0 : wr.cell? ⟨gb200, 0, none⟩ = some (.slice (some ad201) l0_0.length c0_0) := (zac BK200.out 0).trans rfl; have hcz22_1 : wr.cell? ⟨gb200, 1, none⟩ = some (.slice (some ad202) l0_1.length c0_1) := (zac BK200.out 1).trans rfl; have hfz22_0 := zak BK200.out 0; have hfz22_1 := zak BK200.out 1; have p203 : 0 ≤ (x48_3 : Int) := of_decide_eq_true (by first | (with_reducible assumption) | assumption)
                 have q203 : x48_3 < (l0_0.length : Int) := of_decide_eq_true (by first | (with_reducible assumption) | assumption)
                 obtain ⟨ad203, A203_0, c203_0, e203, hx203_0, hl203_0, hi203_0⟩ := at_L2 HR0_0.out x48_3 p203 q203; obtain rfl : ad201 = ad203 := (by injection e203)
                 replace hx203_0 := (HB.out.cell (World.block_lt_of_cell? w _ hx203_0)).trans hx203_0; have HR203_0 := zaf.mk hi203_0; have HC203_0 := zaf.mk hl203_0; clear hi203_0 hl203_0; replace p203 := eq_true p203; replace q203 := eq_true q203; have p204 : 0 ≤ (x48_3 : Int) := of_decide_eq_true (by first | (with_reducible assumption) | assumption)
                 have q204 : x48_3 < (l0_1.length : Int) := of_decide_eq_true (by first | (with_reducible assumption) | assumption)
                 obtain ⟨ad204, A204_0, c204_0, e204, hx204_0, hl204_0, hi204_0⟩ := at_L3 HR0_1.out x48_3 p204 q204; obtain rfl : ad202 = ad204 := (by injection e204)
                 replace hx204_0 := (HB.out.cell (World.block_lt_of_cell? w _ hx204_0)).trans hx204_0; have HR204_0 := zaf.mk hi204_0; have HC204_0 := zaf.mk hl204_0; clear hi204_0 hl204_0; replace p204 := eq_true p204; replace q204 := eq_true q204; go_wp2
                 repeat (go_quiet (fail); try go_wp2)
                 go_meet
                 case rel => exact ⟨_, ((((rd_L3 l0_1 x48_3).length : Int) != ((rd_L3 l0_1 0).length : Int))), (by first | rfl | (simp; done) | (simp [*]; done)), H', ⟨by have := HJ1.out; have := HJ10.out; have := HK3.out; first | omega | exact Nat.le_refl _⟩, ⟨by (with_reducible repeat (first | apply zai | apply zaj | apply zad)); exact BK200.out⟩, ⟨by repeat (first | (with_reducible first | exact HB.out | apply zab | apply zaa | apply zah | refine zae ?_ GE200.out) | exact HB.out)⟩⟩
                ·rw [if_neg c21] at H; exact absurd H (by simp)
               ·rw [if_neg c20] at H; have c20b0 : (((rd_L2 l0_0 x48_3).length : Int) == ((rd_L2 l0_0 0).length : Int)) = false := beq_eq_false_iff_ne.mpr c20; have c20b1 : (((rd_L2 l0_0 x48_3).length : Int) != ((rd_L2 l0_0 0).length : Int)) = true := bne_iff_ne.mpr c20; have c20b2 : ((rd_L2 l0_0 x48_3).length == (rd_L2 l0_0 0).length) = false := by first | simpa using c20 | (simp at c20 ⊢; omega)
                have H' := zaf.mk H; clear H; have hcz23_0 : wr.cell? ⟨gb200, 0, none⟩ = some (.slice (some ad201) l0_0.length c0_0) := (zac BK200.out 0).trans rfl; have hcz23_1 : wr.cell? ⟨gb200, 1, none⟩ = some (.slice (some ad202) l0_1.length c0_1) := (zac BK200.out 1).trans rfl; have hfz23_0 := zak BK200.out 0; have hfz23_1 := zak BK200.out 1; have p203 : 0 ≤ (x48_3 : Int) := of_decide_eq_true (by first | (with_reducible assumption) | assumption)
                have q203 : x48_3 < (l0_0.length : Int) := of_decide_eq_true (by first | (with_reducible assumption) | assumption)
                obtain ⟨ad203, A203_0, c203_0, e203, hx203_0, hl203_0, hi203_0⟩ := at_L2 HR0_0.out x48_3 p203 q203; obtain rfl : ad201 = ad203 := (by injection e203)
                replace hx203_0 := (HB.out.cell (World.block_lt_of_cell? w _ hx203_0)).trans hx203_0; have HR203_0 := zaf.mk hi203_0; have HC203_0 := zaf.mk hl203_0; clear hi203_0 hl203_0; replace p203 := eq_true p203; replace q203 := eq_true q203; go_wp2
                repeat (go_quiet (fail); try go_wp2)
                go_meet
                case rel => exact ⟨_, (true), (by first | rfl | (simp; done) | (simp [*]; done)), H', ⟨by have := HJ1.out; have := HJ10.out; have := HK3.out; first | omega | exact Nat.le_refl _⟩, ⟨by (with_reducible repeat (first | apply zai | apply zaj | apply zad)); exact BK200.out⟩, ⟨by repeat (first | (with_reducible first | exact HB.out | apply zab | apply zaa | apply zah | refine zae ?_ GE200.out) | exact HB.out)⟩⟩
              ·rw [if_neg c19] at H; exact absurd H (by simp)
             ·rw [if_neg c18] at H; exact absurd H (by simp)
            case rest =>
             clear HC17
             try clear c1
             try clear c2
             try clear p2
             try clear q2
             try clear hx2
             try clear qi2
             try clear c4
             try clear c5
             try clear c5b0
             try clear c5b1
             try clear c5b2
             try clear c6
             try clear c6b0
             try clear c6b1
             try clear c8
             try clear c9
             try clear c9b0
             try clear c9b1
             try clear c10
             try clear c10b0
             try clear c10b1
             try clear c13
             try clear c13b0
             try clear c13b1
             try clear c13b2
             try clear c14
             try clear c14b0
             try clear c14b1
             try clear c15
             try clear c16
             try clear c16b0
             try clear c18
             try clear c18b0
             try clear c19
             try clear c19b0
             try clear c20
             try clear c20b0
             try clear c20b1
             try clear c20b2
             try clear p20
             try clear q20
             try clear hx20
             try clear qi20
             try clear c21
             try clear c21b0
             try clear hcz12_0
             try clear hcz12_1
             try clear hcz22_0
             try clear hcz22_1
             try clear hcz23_0
             try clear hcz23_1
             try clear hcz4_0
             try clear hcz4_1
             try clear hcz7_0
             try clear hcz7_1
             try clear hfz12_0
             try clear hfz12_1
             try clear hfz22_0
             try clear hfz22_1
             try clear hfz23_0
             try clear hfz23_1
             try clear hfz4_0
             try clear hfz4_1
             try clear hfz7_0
             try clear hfz7_1
             try clear hx201_0
             try clear hx202_0
             try clear hx203_0
             try clear hx204_0
             try clear p2
             try clear p201
             try clear p202
             try clear p203
             try clear p204
             try clear q2
             try clear q201
             try clear q202
             try clear q203
             try clear q204
             obtain ⟨kq, x68_16, rfl, HA, HJ16, BK200, HB⟩ := hcut; cases kq with
             | zero => exact absurd HA.out (by simp [table_shaped.j3])
             | succ kj16 =>
              have H := HA.out; clear HA; simp only [table_shaped.j3] at H; by_cases c24 : x68_16 = true
              ·subst c24; have H1 : (some false) = some r := by rw [if_pos rfl] at H; exact H
               clear H; have H := H1; clear H1; obtain rfl := Option.some.inj H; go_wp2
               repeat (go_quiet (fail); try go_wp2)
               go_ret; exact ⟨by first | rfl | (simp [errW_none, errW_some] <;> rfl) | (simp [*, errW_none, errW_some] <;> rfl), by repeat (first | (with_reducible first | exact HB.out | apply zab | apply zaa | apply zah | refine zae ?_ GE200.out) | exact HB.out)⟩
              ·replace c24 := Bool.eq_false_iff.mpr c24; subst c24; have H1 : (if 0 ≤ x48_3 then (if x48_3 < (l0_0.length : Int) then (table_shaped.l1 kj16 (l0_0.length : Int) ((rd_L2 l0_0 0).length : Int) ((rd_L3 l0_1 0).length : Int) x48_3 (l0_0.length : Int) x48_3 (rd_L2 l0_0 x48_3) ((rd_L2 l0_0 x48_3).length : Int) 0 l0_0 l0_1) else (none)) else (none)) = some r := by rw [if_neg (show ¬ (false = true) by decide)] at H; exact H
               clear H; have H := H1; clear H1; by_cases c25 : 0 ≤ x48_3
               ·rw [if_pos c25] at H; have c25b0 : decide (0 ≤ x48_3) = true := decide_eq_true c25; clear c25; by_cases c26 : x48_3 < (l0_0.length : Int)
                ·rw [if_pos c26] at H; have c26b0 : decide (x48_3 < (l0_0.length : Int)) = true := decide_eq_true c26; clear c26; have H' := zaf.mk H; clear H; have hcz27_0 : wc.cell? ⟨gb200, 0, none⟩ = some (.slice (some ad201) l0_0.length c0_0) := (zac BK200.out 0).trans rfl; have hcz27_1 : wc.cell? ⟨gb200, 1, none⟩ = some (.slice (some ad202) l0_1.length c0_1) := (zac BK200.out 1).trans rfl; have hfz27_0 := zak BK200.out 0; have hfz27_1 := zak BK200.out 1; have p205 : 0 ≤ (x48_3 : Int) := of_decide_eq_true (by first | (with_reducible assumption) | assumption)
                 have q205 : x48_3 < (l0_0.length : Int) := of_decide_eq_true (by first | (with_reducible assumption) | assumption)
                 obtain ⟨ad205, A205_0, c205_0, e205, hx205_0, hl205_0, hi205_0⟩ := at_L2 HR0_0.out x48_3 p205 q205; obtain rfl : ad201 = ad205 := (by injection e205)
                 replace hx205_0 := (HB.out.cell (World.block_lt_of_cell? w _ hx205_0)).trans hx205_0; have HR205_0 := zaf.mk hi205_0; have HC205_0 := zaf.mk hl205_0; clear hi205_0 hl205_0; replace p205 := eq_true p205; replace q205 := eq_true q205; go_wp2
                 repeat (go_quiet (fail); try go_wp2)
                 go_loopg [75] kj16 (fun kq v75 w' => ∃ (x75_5 : Int), v75 = .int .i64 x75_5 ∧ zaf (table_shaped.l1 kq (l0_0.length : Int) ((rd_L2 l0_0 0).length : Int) ((rd_L3 l0_1 0).length : Int) x48_3 (l0_0.length : Int) x48_3 (rd_L2 l0_0 x48_3) ((rd_L2 l0_0 x48_3).length : Int) x75_5 l0_0 l0_1 = some r) ∧ zaf (kq ≤ kj16) ∧ zaf (w'.heap[gb200]? = some (.cells #[(.slice (some ad201) l0_0.length c0_0), (.slice (some ad202) l0_1.length c0_1)] 25 (0, 0))) ∧ zaf (Below w.heap.size w w'))
                 case atStart => exact ⟨(0), (by first | rfl | (simp; done) | (simp [*]; done)), H', ⟨Nat.le_refl _⟩, ⟨by (with_reducible repeat (first | apply zai | apply zaj | apply zad)); exact BK200.out⟩, ⟨by repeat (first | (with_reducible first | exact HB.out | apply zab | apply zaa | apply zah | refine zae ?_ GE200.out) | exact HB.out)⟩⟩
                 case round =>
                  clear H'
                  try clear c1
                  try clear c2
                  try clear p2
                  try clear q2
                  try clear hx2
                  try clear qi2
                  try clear c4
                  try clear c5
                  try clear c5b0
                  try clear c5b1
                  try clear c5b2
                  try clear c6
                  try clear c6b0
                  try clear c6b1
                  try clear c8
                  try clear c9
                  try clear c9b0
                  try clear c9b1
                  try clear c10
                  try clear c10b0
                  try clear c10b1
                  try clear c13
                  try clear c13b0
                  try clear c13b1
                  try clear c13b2
                  try clear c14
                  try clear c14b0
                  try clear c14b1
                  try clear c15
                  try clear c16
                  try clear c16b0
                  try clear c18
                  try clear c18b0
                  try clear c19
                  try clear c19b0
                  try clear c20
                  try clear c20b0
                  try clear c20b1
                  try clear c20b2
                  try clear p20
                  try clear q20
                  try clear hx20
                  try clear qi20
                  try clear c21
                  try clear c21b0
                  try clear c24
                  try clear c25
                  try clear c25b0
                  try clear c26
                  try clear c26b0
                  try clear hcz12_0
                  try clear hcz12_1
                  try clear hcz22_0
                  try clear hcz22_1
                  try clear hcz23_0
                  try clear hcz23_1
                  try clear hcz27_0
                  try clear hcz27_1
                  try clear hcz4_0
                  try clear hcz4_1
                  try clear hcz7_0
                  try clear hcz7_1
                  try clear hfz12_0
                  try clear hfz12_1
                  try clear hfz22_0
                  try clear hfz22_1
                  try clear hfz23_0
                  try clear hfz23_1
                  try clear hfz27_0
                  try clear hfz27_1
                  try clear hfz4_0
                  try clear hfz4_1
                  try clear hfz7_0
                  try clear hfz7_1
                  try clear hx201_0
                  try clear hx202_0
                  try clear hx203_0
                  try clear hx204_0
                  try clear hx205_0
                  try clear p2
                  try clear p20
                  try clear p201
                  try clear p202
                  try clear p203
                  try clear p204
                  try clear p205
                  try clear q2
                  try clear q20
                  try clear q201
                  try clear q202
                  try clear q203
                  try clear q204
                  try clear q205
                  obtain ⟨x75_5, rfl, HA, HK5, BK200, HB⟩ := hrel; cases gk with
                  | zero => exact absurd HA.out (by simp [table_shaped.l1])
                  | succ k5 =>
                   have H := HA.out; clear HA; simp only [table_shaped.l1] at H; by_cases c28 : x75_5 < ((rd_L2 l0_0 x48_3).length : Int)
                   ·rw [if_pos c28] at H; have c28b0 : decide (x75_5 < ((rd_L2 l0_0 x48_3).length : Int)) = true := decide_eq_true c28; clear c28; by_cases c29 : 0 ≤ x75_5
                    ·rw [if_pos c29] at H; have c29b0 : decide (0 ≤ x75_5) = true := decide_eq_true c29; clear c29; by_cases c30 : x75_5 < ((rd_L2 l0_0 x48_3).length : Int)
                     ·rw [if_pos c30] at H; have c30b0 : decide (x75_5 < ((rd_L2 l0_0 x48_3).length : Int)) = true := decide_eq_true c30; clear c30; replace H := Option.bind_eq_some_iff.mp H; obtain ⟨t208, A310, H⟩ := H; replace H : (if t208 = true then (table_shaped.l1 k5 (l0_0.length : Int) ((rd_L2 l0_0 0).length : Int) ((rd_L3 l0_1 0).length : Int) x48_3 (l0_0.length : Int) x48_3 (rd_L2 l0_0 x48_3) ((rd_L2 l0_0 x48_3).length : Int) (wrap64 (x75_5 + 1)) l0_0 l0_1) else (some false)) = some r := H
                      have A31 := zaf.mk A310; clear A310; by_cases c32 : t208 = true
                      ·subst c32; have H1 : (table_shaped.l1 k5 (l0_0.length : Int) ((rd_L2 l0_0 0).length : Int) ((rd_L3 l0_1 0).length : Int) x48_3 (l0_0.length : Int) x48_3 (rd_L2 l0_0 x48_3) ((rd_L2 l0_0 x48_3).length : Int) (wrap64 (x75_5 + 1)) l0_0 l0_1) = some r := by rw [if_pos rfl] at H; exact H
                       clear H; have H := H1; clear H1; have H' := zaf.mk H; clear H; have p206 : 0 ≤ (x75_5 : Int) := of_decide_eq_true (by first | (with_reducible assumption) | assumption)
                       have q206 : x75_5 < ((rd_L2 l0_0 x48_3).length : Int) := of_decide_eq_true (by first | (with_reducible assumption) | assumption)
                       obtain ⟨ad206, e206, hx206_0, hx206_1⟩ := at_T93 HR205_0.out x75_5 p206 q206; cases e206; replace hx206_0 := (HB.out.cell (World.block_lt_of_cell? w _ hx206_0)).trans hx206_0; replace hx206_1 := (HB.out.cell (World.block_lt_of_cell? w _ hx206_1)).trans hx206_1; replace p206 := eq_true p206; replace q206 := eq_true q206
                       go_wp2_with (first | ((with_reducible refine zbb (N := 8) rfl ?_); (try (refine zbd (by rfl) ?_; dsimp only)); refine zaz ?hg (N := 8) ?hd (cs := #[.int .i64 0, .int .i64 0]) (t := 93) ?hr ?_; (case hd => rfl); (case hg => rfl); (case hr => first | (go_simp; done) | (go_simp; rfl)); intro gb207 hg w33 hbox hb; have n0_ := zaf.mk (zal (g := gb200) (o := .cells #[.slice (some ad201) l0_0.length c0_0, .slice (some ad202) l0_1.length c0_1] 25 (0, 0)) (by (with_reducible repeat (first | apply zai | apply zaj | apply zad)); exact BK200.out) hb); have n1_ := zaf.mk (zam (by repeat (first | (with_reducible first | exact HB.out | apply zab | apply zaa | apply zah | refine zae ?_ GE200.out) | exact HB.out)) hb); have n2_ := zaf.mk (hbox); have n3_ := zaf.mk ((by rw [hg]; exact (zan (by repeat (first | (with_reducible first | exact HB.out | apply zab | apply zaa | apply zah | refine zae ?_ GE200.out) | exact HB.out))) : w.heap.size ≤ gb207)); have n4_ := zaf.mk ((by rw [hg]; exact (zan (by repeat (first | (with_reducible first | exact HB.out | apply zab | apply zaa | apply zah | refine zae ?_ GE200.out) | exact HB.out))) : w.heap.size ≤ gb207)); have n5_ := zaf.mk ((by rw [hg]; exact Nat.ne_of_lt (zau (g := gb200) (o := .cells #[.slice (some ad201) l0_0.length c0_0, .slice (some ad202) l0_1.length c0_1] 25 (0, 0)) (by (with_reducible repeat (first | apply zai | apply zaj | apply zad)); exact BK200.out)) : gb200 ≠ gb207)); have n6_ := zaf.mk ((by rw [hg]; exact Nat.ne_of_gt (zau (g := gb200) (o := .cells #[.slice (some ad201) l0_0.length c0_0, .slice (some ad202) l0_1.length c0_1] 25 (0, 0)) (by (with_reducible repeat (first | apply zai | apply zaj | apply zad)); exact BK200.out)) : gb207 ≠ gb200)); clear BK200; clear HB; have BK200 := n0_; have HB := n1_; have BK207 := n2_; have GW207 := n3_; have GE207 := n4_; have NB200_207 := n5_; have NB207_200 := n6_; clear n0_ n1_ n2_ n3_ n4_ n5_ n6_; clear hb hbox hg; have hnb34 := NB207_200.out; have hnc34 := NB200_207.out; have hcz35_0 : w33.cell? ⟨gb207, 0, none⟩ = some (.int .i64 0) := (zac BK207.out 0).trans rfl; have hcz35_1 : w33.cell? ⟨gb207, 1, none⟩ = some (.int .i64 0) := (zac BK207.out 1).trans rfl; have hfz35_0 := zak BK207.out 0; have hfz35_1 := zak BK207.out 1) | (go_at_call 77; (with_reducible refine (table_fits.calls k5 ((rd_T93 (rd_L2 l0_0 x48_3) x75_5).f0) ((rd_T93 (rd_L2 l0_0 x48_3) x75_5).f1) (l0_0.length : Int) true _ A31.out).mono ?_); rintro e w36 ⟨rfl, hb⟩; have n0_ := zaf.mk (zal (g := gb200) (o := .cells #[.slice (some ad201) l0_0.length c0_0, .slice (some ad202) l0_1.length c0_1] 25 (0, 0)) (by (with_reducible repeat (first | apply zai | apply zaj | apply zad)); refine zaq ?_ NB200_207.out _; (with_reducible repeat (first | apply zai | apply zaj | apply zad)); refine zaq ?_ NB200_207.out _; (with_reducible repeat (first | apply zai | apply zaj | apply zad)); exact BK200.out) hb); have n1_ := zaf.mk (zal (g := gb207) (o := .cells #[.int .i64 ((rd_T93 (rd_L2 l0_0 x48_3) x75_5).f0), .int .i64 ((rd_T93 (rd_L2 l0_0 x48_3) x75_5).f1)] 93 (0, 0)) (by (with_reducible repeat (first | apply zai | apply zaj | apply zad)); refine zar (cs := #[.int .i64 ((rd_T93 (rd_L2 l0_0 x48_3) x75_5).f0), .int .i64 0]) ?_ 1 _ rfl; (with_reducible repeat (first | apply zai | apply zaj | apply zad)); refine zar (cs := #[.int .i64 0, .int .i64 0]) ?_ 0 _ rfl; (with_reducible repeat (first | apply zai | apply zaj | apply zad)); exact BK207.out) hb); have n2_ := zaf.mk (zam (by repeat (first | (with_reducible first | exact HB.out | apply zab | apply zaa | apply zah | refine zae ?_ GE200.out | refine zae ?_ GE207.out) | exact HB.out)) hb); clear BK200; clear BK207; clear HB; have BK200 := n0_; have BK207 := n1_; have HB := n2_; clear n0_ n1_ n2_; (try clear hb); (try clear hb2); (try clear hk); (try clear hi)))
                       repeat (go_quiet (first | ((with_reducible refine zbb (N := 8) rfl ?_); (try (refine zbd (by rfl) ?_; dsimp only)); refine zaz ?hg (N := 8) ?hd (cs := #[.int .i64 0, .int .i64 0]) (t := 93) ?hr ?_; (case hd => rfl); (case hg => rfl); (case hr => first | (go_simp; done) | (go_simp; rfl)); intro gb207 hg w33 hbox hb; have n0_ := zaf.mk (zal (g := gb200) (o := .cells #[.slice (some ad201) l0_0.length c0_0, .slice (some ad202) l0_1.length c0_1] 25 (0, 0)) (by (with_reducible repeat (first | apply zai | apply zaj | apply zad)); exact BK200.out) hb); have n1_ := zaf.mk (zam (by repeat (first | (with_reducible first | exact HB.out | apply zab | apply zaa | apply zah | refine zae ?_ GE200.out) | exact HB.out)) hb); have n2_ := zaf.mk (hbox); have n3_ := zaf.mk ((by rw [hg]; exact (zan (by repeat (first | (with_reducible first | exact HB.out | apply zab | apply zaa | apply zah | refine zae ?_ GE200.out) | exact HB.out))) : w.heap.size ≤ gb207)); have n4_ := zaf.mk ((by rw [hg]; exact (zan (by repeat (first | (with_reducible first | exact HB.out | apply zab | apply zaa | apply zah | refine zae ?_ GE200.out) | exact HB.out))) : w.heap.size ≤ gb207)); have n5_ := zaf.mk ((by rw [hg]; exact Nat.ne_of_lt (zau (g := gb200) (o := .cells #[.slice (some ad201) l0_0.length c0_0, .slice (some ad202) l0_1.length c0_1] 25 (0, 0)) (by (with_reducible repeat (first | apply zai | apply zaj | apply zad)); exact BK200.out)) : gb200 ≠ gb207)); have n6_ := zaf.mk ((by rw [hg]; exact Nat.ne_of_gt (zau (g := gb200) (o := .cells #[.slice (some ad201) l0_0.length c0_0, .slice (some ad202) l0_1.length c0_1] 25 (0, 0)) (by (with_reducible repeat (first | apply zai | apply zaj | apply zad)); exact BK200.out)) : gb207 ≠ gb200)); clear BK200; clear HB; have BK200 := n0_; have HB := n1_; have BK207 := n2_; have GW207 := n3_; have GE207 := n4_; have NB200_207 := n5_; have NB207_200 := n6_; clear n0_ n1_ n2_ n3_ n4_ n5_ n6_; clear hb hbox hg; have hnb34 := NB207_200.out; have hnc34 := NB200_207.out; have hcz35_0 : w33.cell? ⟨gb207, 0, none⟩ = some (.int .i64 0) := (zac BK207.out 0).trans rfl; have hcz35_1 : w33.cell? ⟨gb207, 1, none⟩ = some (.int .i64 0) := (zac BK207.out 1).trans rfl; have hfz35_0 := zak BK207.out 0; have hfz35_1 := zak BK207.out 1) | (go_at_call 77; (with_reducible refine (table_fits.calls k5 ((rd_T93 (rd_L2 l0_0 x48_3) x75_5).f0) ((rd_T93 (rd_L2 l0_0 x48_3) x75_5).f1) (l0_0.length : Int) true _ A31.out).mono ?_); rintro e w36 ⟨rfl, hb⟩; have n0_ := zaf.mk (zal (g := gb200) (o := .cells #[.slice (some ad201) l0_0.length c0_0, .slice (some ad202) l0_1.length c0_1] 25 (0, 0)) (by (with_reducible repeat (first | apply zai | apply zaj | apply zad)); refine zaq ?_ NB200_207.out _; (with_reducible repeat (first | apply zai | apply zaj | apply zad)); refine zaq ?_ NB200_207.out _; (with_reducible repeat (first | apply zai | apply zaj | apply zad)); exact BK200.out) hb); have n1_ := zaf.mk (zal (g := gb207) (o := .cells #[.int .i64 ((rd_T93 (rd_L2 l0_0 x48_3) x75_5).f0), .int .i64 ((rd_T93 (rd_L2 l0_0 x48_3) x75_5).f1)] 93 (0, 0)) (by (with_reducible repeat (first | apply zai | apply zaj | apply zad)); refine zar (cs := #[.int .i64 ((rd_T93 (rd_L2 l0_0 x48_3) x75_5).f0), .int .i64 0]) ?_ 1 _ rfl; (with_reducible repeat (first | apply zai | apply zaj | apply zad)); refine zar (cs := #[.int .i64 0, .int .i64 0]) ?_ 0 _ rfl; (with_reducible repeat (first | apply zai | apply zaj | apply zad)); exact BK207.out) hb); have n2_ := zaf.mk (zam (by repeat (first | (with_reducible first | exact HB.out | apply zab | apply zaa | apply zah | refine zae ?_ GE200.out | refine zae ?_ GE207.out) | exact HB.out)) hb); clear BK200; clear BK207; clear HB; have BK200 := n0_; have BK207 := n1_; have HB := n2_; clear n0_ n1_ n2_; (try clear hb); (try clear hb2); (try clear hk); (try clear hi))); try go_wp2_with (first | ((with_reducible refine zbb (N := 8) rfl ?_); (try (refine zbd (by rfl) ?_; dsimp only)); refine zaz ?hg (N := 8) ?hd (cs := #[.int .i64 0, .int .i64 0]) (t := 93) ?hr ?_; (case hd => rfl); (case hg => rfl); (case hr => first | (go_simp; done) | (go_simp; rfl)); intro gb207 hg w33 hbox hb; have n0_ := zaf.mk (zal (g := gb200) (o := .cells #[.slice (some ad201) l0_0.length c0_0, .slice (some ad202) l0_1.length c0_1] 25 (0, 0)) (by (with_reducible repeat (first | apply zai | apply zaj | apply zad)); exact BK200.out) hb); have n1_ := zaf.mk (zam (by repeat (first | (with_reducible first | exact HB.out | apply zab | apply zaa | apply zah | refine zae ?_ GE200.out) | exact HB.out)) hb); have n2_ := zaf.mk (hbox); have n3_ := zaf.mk ((by rw [hg]; exact (zan (by repeat (first | (with_reducible first | exact HB.out | apply zab | apply zaa | apply zah | refine zae ?_ GE200.out) | exact HB.out))) : w.heap.size ≤ gb207)); have n4_ := zaf.mk ((by rw [hg]; exact (zan (by repeat (first | (with_reducible first | exact HB.out | apply zab | apply zaa | apply zah | refine zae ?_ GE200.out) | exact HB.out))) : w.heap.size ≤ gb207)); have n5_ := zaf.mk ((by rw [hg]; exact Nat.ne_of_lt (zau (g := gb200) (o := .cells #[.slice (some ad201) l0_0.length c0_0, .slice (some ad202) l0_1.length c0_1] 25 (0, 0)) (by (with_reducible repeat (first | apply zai | apply zaj | apply zad)); exact BK200.out)) : gb200 ≠ gb207)); have n6_ := zaf.mk ((by rw [hg]; exact Nat.ne_of_gt (zau (g := gb200) (o := .cells #[.slice (some ad201) l0_0.length c0_0, .slice (some ad202) l0_1.length c0_1] 25 (0, 0)) (by (with_reducible repeat (first | apply zai | apply zaj | apply zad)); exact BK200.out)) : gb207 ≠ gb200)); clear BK200; clear HB; have BK200 := n0_; have HB := n1_; have BK207 := n2_; have GW207 := n3_; have GE207 := n4_; have NB200_207 := n5_; have NB207_200 := n6_; clear n0_ n1_ n2_ n3_ n4_ n5_ n6_; clear hb hbox hg; have hnb34 := NB207_200.out; have hnc34 := NB200_207.out; have hcz35_0 : w33.cell? ⟨gb207, 0, none⟩ = some (.int .i64 0) := (zac BK207.out 0).trans rfl; have hcz35_1 : w33.cell? ⟨gb207, 1, none⟩ = some (.int .i64 0) := (zac BK207.out 1).trans rfl; have hfz35_0 := zak BK207.out 0; have hfz35_1 := zak BK207.out 1) | (go_at_call 77; (with_reducible refine (table_fits.calls k5 ((rd_T93 (rd_L2 l0_0 x48_3) x75_5).f0) ((rd_T93 (rd_L2 l0_0 x48_3) x75_5).f1) (l0_0.length : Int) true _ A31.out).mono ?_); rintro e w36 ⟨rfl, hb⟩; have n0_ := zaf.mk (zal (g := gb200) (o := .cells #[.slice (some ad201) l0_0.length c0_0, .slice (some ad202) l0_1.length c0_1] 25 (0, 0)) (by (with_reducible repeat (first | apply zai | apply zaj | apply zad)); refine zaq ?_ NB200_207.out _; (with_reducible repeat (first | apply zai | apply zaj | apply zad)); refine zaq ?_ NB200_207.out _; (with_reducible repeat (first | apply zai | apply zaj | apply zad)); exact BK200.out) hb); have n1_ := zaf.mk (zal (g := gb207) (o := .cells #[.int .i64 ((rd_T93 (rd_L2 l0_0 x48_3) x75_5).f0), .int .i64 ((rd_T93 (rd_L2 l0_0 x48_3) x75_5).f1)] 93 (0, 0)) (by (with_reducible repeat (first | apply zai | apply zaj | apply zad)); refine zar (cs := #[.int .i64 ((rd_T93 (rd_L2 l0_0 x48_3) x75_5).f0), .int .i64 0]) ?_ 1 _ rfl; (with_reducible repeat (first | apply zai | apply zaj | apply zad)); refine zar (cs := #[.int .i64 0, .int .i64 0]) ?_ 0 _ rfl; (with_reducible repeat (first | apply zai | apply zaj | apply zad)); exact BK207.out) hb); have n2_ := zaf.mk (zam (by repeat (first | (with_reducible first | exact HB.out | apply zab | apply zaa | apply zah | refine zae ?_ GE200.out | refine zae ?_ GE207.out) | exact HB.out)) hb); clear BK200; clear BK207; clear HB; have BK200 := n0_; have BK207 := n1_; have HB := n2_; clear n0_ n1_ n2_; (try clear hb); (try clear hb2); (try clear hk); (try clear hi))))
                       go_roundg k5
                       case measure => have := HJ1.out; have := HJ10.out; have := HK3.out; have := HJ16.out; have := HK5.out; omega
                       case rel => exact ⟨(wrap64 (x75_5 + 1)), (by first | rfl | (simp; done) | (simp [*]; done)), H', ⟨by have := HJ1.out; have := HJ10.out; have := HK3.out; have := HJ16.out; have := HK5.out; omega⟩, ⟨by (with_reducible repeat (first | apply zai | apply zaj | apply zad)); exact BK200.out⟩, ⟨by repeat (first | (with_reducible first | exact HB.out | apply zab | apply zaa | apply zah | refine zae ?_ GE200.out | refine zae ?_ GE207.out) | exact HB.out)⟩⟩
                      ·replace c32 := Bool.eq_false_iff.mpr c32; subst c32; have H1 : (some false) = some r := by rw [if_neg (show ¬ (false = true) by decide)] at H; exact H
                       clear H; have H := H1; clear H1; obtain rfl := Option.some.inj H; have p206 : 0 ≤ (x75_5 : Int) := of_decide_eq_true (by first | (with_reducible assumption) | assumption)
                       have q206 : x75_5 < ((rd_L2 l0_0 x48_3).length : Int) := of_decide_eq_true (by first | (with_reducible assumption) | assumption)
                       obtain ⟨ad206, e206, hx206_0, hx206_1⟩ := at_T93 HR205_0.out x75_5 p206 q206; cases e206; replace hx206_0 := (HB.out.cell (World.block_lt_of_cell? w _ hx206_0)).trans hx206_0; replace hx206_1 := (HB.out.cell (World.block_lt_of_cell? w _ hx206_1)).trans hx206_1; replace p206 := eq_true p206; replace q206 := eq_true q206
                       go_wp2_with (first | ((with_reducible refine zbb (N := 8) rfl ?_); (try (refine zbd (by rfl) ?_; dsimp only)); refine zaz ?hg (N := 8) ?hd (cs := #[.int .i64 0, .int .i64 0]) (t := 93) ?hr ?_; (case hd => rfl); (case hg => rfl); (case hr => first | (go_simp; done) | (go_simp; rfl)); intro gb207 hg w37 hbox hb; have n0_ := zaf.mk (zal (g := gb200) (o := .cells #[.slice (some ad201) l0_0.length c0_0, .slice (some ad202) l0_1.length c0_1] 25 (0, 0)) (by (with_reducible repeat (first | apply zai | apply zaj | apply zad)); exact BK200.out) hb); have n1_ := zaf.mk (zam (by repeat (first | (with_reducible first | exact HB.out | apply zab | apply zaa | apply zah | refine zae ?_ GE200.out) | exact HB.out)) hb); have n2_ := zaf.mk (hbox); have n3_ := zaf.mk ((by rw [hg]; exact (zan (by repeat (first | (with_reducible first | exact HB.out | apply zab | apply zaa | apply zah | refine zae ?_ GE200.out) | exact HB.out))) : w.heap.size ≤ gb207)); have n4_ := zaf.mk ((by rw [hg]; exact (zan (by repeat (first | (with_reducible first | exact HB.out | apply zab | apply zaa | apply zah | refine zae ?_ GE200.out) | exact HB.out))) : w.heap.size ≤ gb207)); have n5_ := zaf.mk ((by rw [hg]; exact Nat.ne_of_lt (zau (g := gb200) (o := .cells #[.slice (some ad201) l0_0.length c0_0, .slice (some ad202) l0_1.length c0_1] 25 (0, 0)) (by (with_reducible repeat (first | apply zai | apply zaj | apply zad)); exact BK200.out)) : gb200 ≠ gb207)); have n6_ := zaf.mk ((by rw [hg]; exact Nat.ne_of_gt (zau (g := gb200) (o := .cells #[.slice (some ad201) l0_0.length c0_0, .slice (some ad202) l0_1.length c0_1] 25 (0, 0)) (by (with_reducible repeat (first | apply zai | apply zaj | apply zad)); exact BK200.out)) : gb207 ≠ gb200)); clear BK200; clear HB; have BK200 := n0_; have HB := n1_; have BK207 := n2_; have GW207 := n3_; have GE207 := n4_; have NB200_207 := n5_; have NB207_200 := n6_; clear n0_ n1_ n2_ n3_ n4_ n5_ n6_; clear hb hbox hg; have hnb38 := NB207_200.out; have hnc38 := NB200_207.out; have hcz39_0 : w37.cell? ⟨gb207, 0, none⟩ = some (.int .i64 0) := (zac BK207.out 0).trans rfl; have hcz39_1 : w37.cell? ⟨gb207, 1, none⟩ = some (.int .i64 0) := (zac BK207.out 1).trans rfl; have hfz39_0 := zak BK207.out 0; have hfz39_1 := zak BK207.out 1) | (go_at_call 77; (with_reducible refine (table_fits.calls k5 ((rd_T93 (rd_L2 l0_0 x48_3) x75_5).f0) ((rd_T93 (rd_L2 l0_0 x48_3) x75_5).f1) (l0_0.length : Int) false _ A31.out).mono ?_); rintro e w40 ⟨rfl, hb⟩; have n0_ := zaf.mk (zal (g := gb200) (o := .cells #[.slice (some ad201) l0_0.length c0_0, .slice (some ad202) l0_1.length c0_1] 25 (0, 0)) (by (with_reducible repeat (first | apply zai | apply zaj | apply zad)); refine zaq ?_ NB200_207.out _; (with_reducible repeat (first | apply zai | apply zaj | apply zad)); refine zaq ?_ NB200_207.out _; (with_reducible repeat (first | apply zai | apply zaj | apply zad)); exact BK200.out) hb); have n1_ := zaf.mk (zal (g := gb207) (o := .cells #[.int .i64 ((rd_T93 (rd_L2 l0_0 x48_3) x75_5).f0), .int .i64 ((rd_T93 (rd_L2 l0_0 x48_3) x75_5).f1)] 93 (0, 0)) (by (with_reducible repeat (first | apply zai | apply zaj | apply zad)); refine zar (cs := #[.int .i64 ((rd_T93 (rd_L2 l0_0 x48_3) x75_5).f0), .int .i64 0]) ?_ 1 _ rfl; (with_reducible repeat (first | apply zai | apply zaj | apply zad)); refine zar (cs := #[.int .i64 0, .int .i64 0]) ?_ 0 _ rfl; (with_reducible repeat (first | apply zai | apply zaj | apply zad)); exact BK207.out) hb); have n2_ := zaf.mk (zam (by repeat (first | (with_reducible first | exact HB.out | apply zab | apply zaa | apply zah | refine zae ?_ GE200.out | refine zae ?_ GE207.out) | exact HB.out)) hb); clear BK200; clear BK207; clear HB; have BK200 := n0_; have BK207 := n1_; have HB := n2_; clear n0_ n1_ n2_; (try clear hb); (try clear hb2); (try clear hk); (try clear hi)))
                       repeat (go_quiet (first | ((with_reducible refine zbb (N := 8) rfl ?_); (try (refine zbd (by rfl) ?_; dsimp only)); refine zaz ?hg (N := 8) ?hd (cs := #[.int .i64 0, .int .i64 0]) (t := 93) ?hr ?_; (case hd => rfl); (case hg => rfl); (case hr => first | (go_simp; done) | (go_simp; rfl)); intro gb207 hg w37 hbox hb; have n0_ := zaf.mk (zal (g := gb200) (o := .cells #[.slice (some ad201) l0_0.length c0_0, .slice (some ad202) l0_1.length c0_1] 25 (0, 0)) (by (with_reducible repeat (first | apply zai | apply zaj | apply zad)); exact BK200.out) hb); have n1_ := zaf.mk (zam (by repeat (first | (with_reducible first | exact HB.out | apply zab | apply zaa | apply zah | refine zae ?_ GE200.out) | exact HB.out)) hb); have n2_ := zaf.mk (hbox); have n3_ := zaf.mk ((by rw [hg]; exact (zan (by repeat (first | (with_reducible first | exact HB.out | apply zab | apply zaa | apply zah | refine zae ?_ GE200.out) | exact HB.out))) : w.heap.size ≤ gb207)); have n4_ := zaf.mk ((by rw [hg]; exact (zan (by repeat (first | (with_reducible first | exact HB.out | apply zab | apply zaa | apply zah | refine zae ?_ GE200.out) | exact HB.out))) : w.heap.size ≤ gb207)); have n5_ := zaf.mk ((by rw [hg]; exact Nat.ne_of_lt (zau (g := gb200) (o := .cells #[.slice (some ad201) l0_0.length c0_0, .slice (some ad202) l0_1.length c0_1] 25 (0, 0)) (by (with_reducible repeat (first | apply zai | apply zaj | apply zad)); exact BK200.out)) : gb200 ≠ gb207)); have n6_ := zaf.mk ((by rw [hg]; exact Nat.ne_of_gt (zau (g := gb200) (o := .cells #[.slice (some ad201) l0_0.length c0_0, .slice (some ad202) l0_1.length c0_1] 25 (0, 0)) (by (with_reducible repeat (first | apply zai | apply zaj | apply zad)); exact BK200.out)) : gb207 ≠ gb200)); clear BK200; clear HB; have BK200 := n0_; have HB := n1_; have BK207 := n2_; have GW207 := n3_; have GE207 := n4_; have NB200_207 := n5_; have NB207_200 := n6_; clear n0_ n1_ n2_ n3_ n4_ n5_ n6_; clear hb hbox hg; have hnb38 := NB207_200.out; have hnc38 := NB200_207.out; have hcz39_0 : w37.cell? ⟨gb207, 0, none⟩ = some (.int .i64 0) := (zac BK207.out 0).trans rfl; have hcz39_1 : w37.cell? ⟨gb207, 1, none⟩ = some (.int .i64 0) := (zac BK207.out 1).trans rfl; have hfz39_0 := zak BK207.out 0; have hfz39_1 := zak BK207.out 1) | (go_at_call 77; (with_reducible refine (table_fits.calls k5 ((rd_T93 (rd_L2 l0_0 x48_3) x75_5).f0) ((rd_T93 (rd_L2 l0_0 x48_3) x75_5).f1) (l0_0.length : Int) false _ A31.out).mono ?_); rintro e w40 ⟨rfl, hb⟩; have n0_ := zaf.mk (zal (g := gb200) (o := .cells #[.slice (some ad201) l0_0.length c0_0, .slice (some ad202) l0_1.length c0_1] 25 (0, 0)) (by (with_reducible repeat (first | apply zai | apply zaj | apply zad)); refine zaq ?_ NB200_207.out _; (with_reducible repeat (first | apply zai | apply zaj | apply zad)); refine zaq ?_ NB200_207.out _; (with_reducible repeat (first | apply zai | apply zaj | apply zad)); exact BK200.out) hb); have n1_ := zaf.mk (zal (g := gb207) (o := .cells #[.int .i64 ((rd_T93 (rd_L2 l0_0 x48_3) x75_5).f0), .int .i64 ((rd_T93 (rd_L2 l0_0 x48_3) x75_5).f1)] 93 (0, 0)) (by (with_reducible repeat (first | apply zai | apply zaj | apply zad)); refine zar (cs := #[.int .i64 ((rd_T93 (rd_L2 l0_0 x48_3) x75_5).f0), .int .i64 0]) ?_ 1 _ rfl; (with_reducible repeat (first | apply zai | apply zaj | apply zad)); refine zar (cs := #[.int .i64 0, .int .i64 0]) ?_ 0 _ rfl; (with_reducible repeat (first | apply zai | apply zaj | apply zad)); exact BK207.out) hb); have n2_ := zaf.mk (zam (by repeat (first | (with_reducible first | exact HB.out | apply zab | apply zaa | apply zah | refine zae ?_ GE200.out | refine zae ?_ GE207.out) | exact HB.out)) hb); clear BK200; clear BK207; clear HB; have BK200 := n0_; have BK207 := n1_; have HB := n2_; clear n0_ n1_ n2_; (try clear hb); (try clear hb2); (try clear hk); (try clear hi))); try go_wp2_with (first | ((with_reducible refine zbb (N := 8) rfl ?_); (try (refine zbd (by rfl) ?_; dsimp only)); refine zaz ?hg (N := 8) ?hd (cs := #[.int .i64 0, .int .i64 0]) (t := 93) ?hr ?_; (case hd => rfl); (case hg => rfl); (case hr => first | (go_simp; done) | (go_simp; rfl)); intro gb207 hg w37 hbox hb; have n0_ := zaf.mk (zal (g := gb200) (o := .cells #[.slice (some ad201) l0_0.length c0_0, .slice (some ad202) l0_1.length c0_1] 25 (0, 0)) (by (with_reducible repeat (first | apply zai | apply zaj | apply zad)); exact BK200.out) hb); have n1_ := zaf.mk (zam (by repeat (first | (with_reducible first | exact HB.out | apply zab | apply zaa | apply zah | refine zae ?_ GE200.out) | exact HB.out)) hb); have n2_ := zaf.mk (hbox); have n3_ := zaf.mk ((by rw [hg]; exact (zan (by repeat (first | (with_reducible first | exact HB.out | apply zab | apply zaa | apply zah | refine zae ?_ GE200.out) | exact HB.out))) : w.heap.size ≤ gb207)); have n4_ := zaf.mk ((by rw [hg]; exact (zan (by repeat (first | (with_reducible first | exact HB.out | apply zab | apply zaa | apply zah | refine zae ?_ GE200.out) | exact HB.out))) : w.heap.size ≤ gb207)); have n5_ := zaf.mk ((by rw [hg]; exact Nat.ne_of_lt (zau (g := gb200) (o := .cells #[.slice (some ad201) l0_0.length c0_0, .slice (some ad202) l0_1.length c0_1] 25 (0, 0)) (by (with_reducible repeat (first | apply zai | apply zaj | apply zad)); exact BK200.out)) : gb200 ≠ gb207)); have n6_ := zaf.mk ((by rw [hg]; exact Nat.ne_of_gt (zau (g := gb200) (o := .cells #[.slice (some ad201) l0_0.length c0_0, .slice (some ad202) l0_1.length c0_1] 25 (0, 0)) (by (with_reducible repeat (first | apply zai | apply zaj | apply zad)); exact BK200.out)) : gb207 ≠ gb200)); clear BK200; clear HB; have BK200 := n0_; have HB := n1_; have BK207 := n2_; have GW207 := n3_; have GE207 := n4_; have NB200_207 := n5_; have NB207_200 := n6_; clear n0_ n1_ n2_ n3_ n4_ n5_ n6_; clear hb hbox hg; have hnb38 := NB207_200.out; have hnc38 := NB200_207.out; have hcz39_0 : w37.cell? ⟨gb207, 0, none⟩ = some (.int .i64 0) := (zac BK207.out 0).trans rfl; have hcz39_1 : w37.cell? ⟨gb207, 1, none⟩ = some (.int .i64 0) := (zac BK207.out 1).trans rfl; have hfz39_0 := zak BK207.out 0; have hfz39_1 := zak BK207.out 1) | (go_at_call 77; (with_reducible refine (table_fits.calls k5 ((rd_T93 (rd_L2 l0_0 x48_3) x75_5).f0) ((rd_T93 (rd_L2 l0_0 x48_3) x75_5).f1) (l0_0.length : Int) false _ A31.out).mono ?_); rintro e w40 ⟨rfl, hb⟩; have n0_ := zaf.mk (zal (g := gb200) (o := .cells #[.slice (some ad201) l0_0.length c0_0, .slice (some ad202) l0_1.length c0_1] 25 (0, 0)) (by (with_reducible repeat (first | apply zai | apply zaj | apply zad)); refine zaq ?_ NB200_207.out _; (with_reducible repeat (first | apply zai | apply zaj | apply zad)); refine zaq ?_ NB200_207.out _; (with_reducible repeat (first | apply zai | apply zaj | apply zad)); exact BK200.out) hb); have n1_ := zaf.mk (zal (g := gb207) (o := .cells #[.int .i64 ((rd_T93 (rd_L2 l0_0 x48_3) x75_5).f0), .int .i64 ((rd_T93 (rd_L2 l0_0 x48_3) x75_5).f1)] 93 (0, 0)) (by (with_reducible repeat (first | apply zai | apply zaj | apply zad)); refine zar (cs := #[.int .i64 ((rd_T93 (rd_L2 l0_0 x48_3) x75_5).f0), .int .i64 0]) ?_ 1 _ rfl; (with_reducible repeat (first | apply zai | apply zaj | apply zad)); refine zar (cs := #[.int .i64 0, .int .i64 0]) ?_ 0 _ rfl; (with_reducible repeat (first | apply zai | apply zaj | apply zad)); exact BK207.out) hb); have n2_ := zaf.mk (zam (by repeat (first | (with_reducible first | exact HB.out | apply zab | apply zaa | apply zah | refine zae ?_ GE200.out | refine zae ?_ GE207.out) | exact HB.out)) hb); clear BK200; clear BK207; clear HB; have BK200 := n0_; have BK207 := n1_; have HB := n2_; clear n0_ n1_ n2_; (try clear hb); (try clear hb2); (try clear hk); (try clear hi))))
                       go_ret; exact ⟨by first | rfl | (simp [errW_none, errW_some] <;> rfl) | (simp [*, errW_none, errW_some] <;> rfl), by repeat (first | (with_reducible first | exact HB.out | apply zab | apply zaa | apply zah | refine zae ?_ GE200.out | refine zae ?_ GE207.out) | exact HB.out)⟩
                     ·rw [if_neg c30] at H; exact absurd H (by simp)
                    ·rw [if_neg c29] at H; exact absurd H (by simp)
                   ·rw [if_neg c28] at H; have c28b0 : decide (x75_5 < ((rd_L2 l0_0 x48_3).length : Int)) = false := decide_eq_false c28; clear c28; by_cases c41 : 0 ≤ x48_3
                    ·rw [if_pos c41] at H; have c41b0 : decide (0 ≤ x48_3) = true := decide_eq_true c41; clear c41; by_cases c42 : x48_3 < (l0_1.length : Int)
                     ·rw [if_pos c42] at H; have c42b0 : decide (x48_3 < (l0_1.length : Int)) = true := decide_eq_true c42; clear c42; have H' := zaf.mk H; clear H; have hcz43_0 : wr.cell? ⟨gb200, 0, none⟩ = some (.slice (some ad201) l0_0.length c0_0) := (zac BK200.out 0).trans rfl; have hcz43_1 : wr.cell? ⟨gb200, 1, none⟩ = some (.slice (some ad202) l0_1.length c0_1) := (zac BK200.out 1).trans rfl; have hfz43_0 := zak BK200.out 0; have hfz43_1 := zak BK200.out 1; have p209 : 0 ≤ (x48_3 : Int) := of_decide_eq_true (by first | (with_reducible assumption) | assumption)
                      have q209 : x48_3 < (l0_1.length : Int) := of_decide_eq_true (by first | (with_reducible assumption) | assumption)
                      obtain ⟨ad209, A209_0, c209_0, e209, hx209_0, hl209_0, hi209_0⟩ := at_L3 HR0_1.out x48_3 p209 q209; obtain rfl : ad202 = ad209 := (by injection e209)
                      replace hx209_0 := (HB.out.cell (World.block_lt_of_cell? w _ hx209_0)).trans hx209_0; have HR209_0 := zaf.mk hi209_0; have HC209_0 := zaf.mk hl209_0; clear hi209_0 hl209_0; replace p209 := eq_true p209; replace q209 := eq_true q209; go_wp2
                      repeat (go_quiet (fail); try go_wp2)
                      go_loopg [90] k5 (fun kq v90 w' => ∃ (x90_6 : Int), v90 = .int .i64 x90_6 ∧ zaf (table_shaped.l2 kq (l0_0.length : Int) ((rd_L2 l0_0 0).length : Int) ((rd_L3 l0_1 0).length : Int) (l0_0.length : Int) x48_3 (rd_L3 l0_1 x48_3) ((rd_L3 l0_1 x48_3).length : Int) x90_6 l0_0 l0_1 = some r) ∧ zaf (kq ≤ k5) ∧ zaf (w'.heap[gb200]? = some (.cells #[(.slice (some ad201) l0_0.length c0_0), (.slice (some ad202) l0_1.length c0_1)] 25 (0, 0))) ∧ zaf (Below w.heap.size w w'))
                      case atStart => exact ⟨(0), (by first | rfl | (simp; done) | (simp [*]; done)), H', ⟨Nat.le_refl _⟩, ⟨by (with_reducible repeat (first | apply zai | apply zaj | apply zad)); exact BK200.out⟩, ⟨by repeat (first | (with_reducible first | exact HB.out | apply zab | apply zaa | apply zah | refine zae ?_ GE200.out) | exact HB.out)⟩⟩
                      case round =>
                       clear H'
                       try clear c1
                       try clear c2
                       try clear p2
                       try clear q2
                       try clear hx2
                       try clear qi2
                       try clear c3
                       try clear c4
                       try clear c5
                       try clear c5b0
                       try clear c5b1
                       try clear c5b2
                       try clear c6
                       try clear c6b0
                       try clear c6b1
                       try clear p6
                       try clear c8
                       try clear c9
                       try clear c9b0
                       try clear c9b1
                       try clear c10
                       try clear c10b0
                       try clear c10b1
                       try clear c13
                       try clear c13b0
                       try clear c13b1
                       try clear c13b2
                       try clear c14
                       try clear c14b0
                       try clear c14b1
                       try clear c15
                       try clear c16
                       try clear c16b0
                       try clear c18
                       try clear c18b0
                       try clear c19
                       try clear c19b0
                       try clear c20
                       try clear c20b0
                       try clear c20b1
                       try clear c20b2
                       try clear p20
                       try clear q20
                       try clear hx20
                       try clear qi20
                       try clear c21
                       try clear c21b0
                       try clear c24
                       try clear c25
                       try clear c25b0
                       try clear c26
                       try clear c26b0
                       try clear c28
                       try clear c28b0
                       try clear c29
                       try clear c29b0
                       try clear c30
                       try clear c30b0
                       try clear c32
                       try clear c34
                       try clear c38
                       try clear c41
                       try clear c41b0
                       try clear c42
                       try clear c42b0
                       try clear hcz12_0
                       try clear hcz12_1
                       try clear hcz22_0
                       try clear hcz22_1
                       try clear hcz23_0
                       try clear hcz23_1
                       try clear hcz27_0
                       try clear hcz27_1
                       try clear hcz35_0
                       try clear hcz35_1
                       try clear hcz39_0
                       try clear hcz39_1
                       try clear hcz43_0
                       try clear hcz43_1
                       try clear hcz4_0
                       try clear hcz4_1
                       try clear hcz7_0
                       try clear hcz7_1
                       try clear hfz12_0
                       try clear hfz12_1
                       try clear hfz22_0
                       try clear hfz22_1
                       try clear hfz23_0
                       try clear hfz23_1
                       try clear hfz27_0
                       try clear hfz27_1
                       try clear hfz35_0
                       try clear hfz35_1
                       try clear hfz39_0
                       try clear hfz39_1
                       try clear hfz43_0
                       try clear hfz43_1
                       try clear hfz4_0
                       try clear hfz4_1
                       try clear hfz7_0
                       try clear hfz7_1
                       try clear hx201_0
                       try clear hx202_0
                       try clear hx203_0
                       try clear hx204_0
                       try clear hx205_0
                       try clear hx206_0
                       try clear hx206_1
                       try clear hx209_0
                       try clear p2
                       try clear p20
                       try clear p201
                       try clear p202
                       try clear p203
                       try clear p204
                       try clear p205
                       try clear p206
                       try clear p209
                       try clear q2
                       try clear q20
                       try clear q201
                       try clear q202
                       try clear q203
                       try clear q204
                       try clear q205
                       try clear q206
                       try clear q209
                       obtain ⟨x90_6, rfl, HA, HK6, BK200, HB⟩ := hrel; cases gk with
                       | zero => exact absurd HA.out (by simp [table_shaped.l2])
                       | succ k6 =>
                        have H := HA.out; clear HA; simp only [table_shaped.l2] at H; by_cases c44 : x90_6 < ((rd_L3 l0_1 x48_3).length : Int)
                        ·rw [if_pos c44] at H; have c44b0 : decide (x90_6 < ((rd_L3 l0_1 x48_3).length : Int)) = true := decide_eq_true c44; clear c44; by_cases c45 : 0 ≤ x90_6
                         ·rw [if_pos c45] at H; have c45b0 : decide (0 ≤ x90_6) = true := decide_eq_true c45; clear c45; by_cases c46 : x90_6 < ((rd_L3 l0_1 x48_3).length : Int)
                          ·rw [if_pos c46] at H; have c46b0 : decide (x90_6 < ((rd_L3 l0_1 x48_3).length : Int)) = true := decide_eq_true c46; clear c46; by_cases c47 : (rd (rd_L3 l0_1 x48_3) x90_6) < (-1)
                           ·rw [if_pos c47] at H; have c47b0 : decide ((rd (rd_L3 l0_1 x48_3) x90_6) < (-1)) = true := decide_eq_true c47; clear c47; obtain rfl := Option.some.inj H; have p210 : 0 ≤ (x90_6 : Int) := of_decide_eq_true (by first | (with_reducible assumption) | assumption)
                            have q210 : x90_6 < ((rd_L3 l0_1 x48_3).length : Int) := of_decide_eq_true (by first | (with_reducible assumption) | assumption)
                            obtain ⟨ad210, e210, hx210_0⟩ := Kd.at_int HR209_0.out x90_6 p210 q210; cases e210; replace hx210_0 := (HB.out.cell (World.block_lt_of_cell? w _ hx210_0)).trans hx210_0; replace p210 := eq_true p210; replace q210 := eq_true q210; go_wp2
                            repeat (go_quiet (fail); try go_wp2)
                            go_ret; exact ⟨by first | rfl | (simp [errW_none, errW_some] <;> rfl) | (simp [*, errW_none, errW_some] <;> rfl), by repeat (first | (with_reducible first | exact HB.out | apply zab | apply zaa | apply zah | refine zae ?_ GE200.out) | exact HB.out)⟩
                           ·rw [if_neg c47] at H; have c47b0 : decide ((rd (rd_L3 l0_1 x48_3) x90_6) < (-1)) = false := decide_eq_false c47; clear c47; by_cases c48 : (rd (rd_L3 l0_1 x48_3) x90_6) ≥ (l0_0.length : Int)
                            ·rw [if_pos c48] at H; have c48b0 : decide ((l0_0.length : Int) ≤ (rd (rd_L3 l0_1 x48_3) x90_6)) = true := decide_eq_true c48; clear c48; obtain rfl := Option.some.inj H; have p210 : 0 ≤ (x90_6 : Int) := of_decide_eq_true (by first | (with_reducible assumption) | assumption)
                             have q210 : x90_6 < ((rd_L3 l0_1 x48_3).length : Int) := of_decide_eq_true (by first | (with_reducible assumption) | assumption)
                             obtain ⟨ad210, e210, hx210_0⟩ := Kd.at_int HR209_0.out x90_6 p210 q210; cases e210; replace hx210_0 := (HB.out.cell (World.block_lt_of_cell? w _ hx210_0)).trans hx210_0; replace p210 := eq_true p210; replace q210 := eq_true q210; go_wp2
                             repeat (go_quiet (fail); try go_wp2)
                             go_ret; exact ⟨by first | rfl | (simp [errW_none, errW_some] <;> rfl) | (simp [*, errW_none, errW_some] <;> rfl), by repeat (first | (with_reducible first | exact HB.out | apply zab | apply zaa | apply zah | refine zae ?_ GE200.out) | exact HB.out)⟩
                            ·rw [if_neg c48] at H; have c48b0 : decide ((l0_0.length : Int) ≤ (rd (rd_L3 l0_1 x48_3) x90_6)) = false := decide_eq_false c48; clear c48; have H' := zaf.mk H; clear H; have p210 : 0 ≤ (x90_6 : Int) := of_decide_eq_true (by first | (with_reducible assumption) | assumption)
                             have q210 : x90_6 < ((rd_L3 l0_1 x48_3).length : Int) := of_decide_eq_true (by first | (with_reducible assumption) | assumption)
                             obtain ⟨ad210, e210, hx210_0⟩ := Kd.at_int HR209_0.out x90_6 p210 q210; cases e210; replace hx210_0 := (HB.out.cell (World.block_lt_of_cell? w _ hx210_0)).trans hx210_0; replace p210 := eq_true p210; replace q210 := eq_true q210; go_wp2
                             repeat (go_quiet (fail); try go_wp2)
                             go_roundg k6
                             case measure => have := HJ1.out; have := HJ10.out; have := HK3.out; have := HJ16.out; have := HK5.out; have := HK6.out; omega
                             case rel => exact ⟨(wrap64 (x90_6 + 1)), (by first | rfl | (simp; done) | (simp [*]; done)), H', ⟨by have := HJ1.out; have := HJ10.out; have := HK3.out; have := HJ16.out; have := HK5.out; have := HK6.out; omega⟩, ⟨by (with_reducible repeat (first | apply zai | apply zaj | apply zad)); exact BK200.out⟩, ⟨by repeat (first | (with_reducible first | exact HB.out | apply zab | apply zaa | apply zah | refine zae ?_ GE200.out) | exact HB.out)⟩⟩
                          ·rw [if_neg c46] at H; exact absurd H (by simp)
                         ·rw [if_neg c45] at H; exact absurd H (by simp)
                        ·rw [if_neg c44] at H; have c44b0 : decide (x90_6 < ((rd_L3 l0_1 x48_3).length : Int)) = false := decide_eq_false c44; clear c44; have H' := zaf.mk H; clear H; go_wp2
                         repeat (go_quiet (fail); try go_wp2)
                         go_roundg k6
                         case measure => have := HJ1.out; have := HJ10.out; have := HK3.out; have := HJ16.out; have := HK5.out; have := HK6.out; omega
                         case rel => exact ⟨(wrap64 (x48_3 + 1)), (by first | rfl | (simp; done) | (simp [*]; done)), H', ⟨by have := HJ1.out; have := HJ10.out; have := HK3.out; have := HJ16.out; have := HK5.out; have := HK6.out; omega⟩, ⟨by (with_reducible repeat (first | apply zai | apply zaj | apply zad)); exact BK200.out⟩, ⟨by repeat (first | (with_reducible first | exact HB.out | apply zab | apply zaa | apply zah | refine zae ?_ GE200.out) | exact HB.out)⟩⟩
                     ·rw [if_neg c42] at H; exact absurd H (by simp)
                    ·rw [if_neg c41] at H; exact absurd H (by simp)
                ·rw [if_neg c26] at H; exact absurd H (by simp)
               ·rw [if_neg c25] at H; exact absurd H (by simp)
           ·rw [if_neg c16] at H; have c16b0 : decide (x48_3 < (l0_0.length : Int)) = false := decide_eq_false c16; clear c16; obtain rfl := Option.some.inj H; go_wp2
            repeat (go_quiet (fail); try go_wp2)
            go_ret; exact ⟨by first | rfl | (simp [errW_none, errW_some] <;> rfl) | (simp [*, errW_none, errW_some] <;> rfl), by repeat (first | (with_reducible first | exact HB.out | apply zab | apply zaa | apply zah | refine zae ?_ GE200.out) | exact HB.out)⟩
     ·rw [if_neg c10] at H; exact absurd H (by simp)
    ·rw [if_neg c9] at H; exact absurd H (by simp)
end Go.Proofs.YtcijanmckhlpiaaDoor.PTableBack
