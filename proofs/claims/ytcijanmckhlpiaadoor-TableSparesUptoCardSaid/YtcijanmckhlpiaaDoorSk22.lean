-- Texts of this seat, cut to what is used and merged (by shake.py).
import Derived.Test.YtcijanmckhlpiaaDoorSk12
import Derived.Test.YtcijanmckhlpiaaDoorSk13
import Derived.Test.YtcijanmckhlpiaaDoorSk15
import Derived.Test.YtcijanmckhlpiaaDoorSk16
import Derived.Test.YtcijanmckhlpiaaDoorSk20
import Derived.Test.YtcijanmckhlpiaaDoorSk21
set_option linter.unusedVariables false
set_option linter.unusedSimpArgs false
namespace Go.Proofs.YtcijanmckhlpiaaDoor.PTableBack
open Go.RowKit Go.Proofs.YtcijanmckhlpiaaDoorW.PrintWords Go.Proofs.YtcijanmckhlpiaaDoorW.PrintLast Go.Proofs.YtcijanmckhlpiaaDoorW.PrintMore
attribute [local go_sem] max2_int min2_int max_two min_two max_three min_three max_four min_four
attribute [local go_sem high] eqA93
mutual
def table_Valid.j0 : Nat → Int → Bool → List (List (S93)) → List (List Int) → Option (Int)
 | 0, _, _, _, _ => none
 | k + 1, x1, x16, x252000, x252001 => if x16 = true then (some 0) else (if 0 ≤ x1 then (if x1 < (x252000.length : Int) then (table_Valid.l0 k 0 (rd_L2 x252000 x1) ((rd_L2 x252000 x1).length : Int) 0) else (none)) else (none))
def table_Valid.l0 : Nat → Int → List (S93) → Int → Int → Option (Int)
 | 0, _, _, _, _ => none
 | k + 1, x5, x21, x22, x23 => if x23 < x22 then (if 0 ≤ x23 then (if x23 < (x21.length : Int) then (if ((rd_T93 x21 x23).f0) = 0 then (table_Valid.l0 k x5 x21 x22 (wrap64 (x23 + 1))) else (if x23 < 64 then (table_Valid.l0 k (Go.bits .or .u64 x5 (shl .u64 1 x23)) x21 x22 (wrap64 (x23 + 1))) else (table_Valid.l0 k x5 x21 x22 (wrap64 (x23 + 1))))) else (none)) else (none)) else (some x5)
end
def table_Valid.f (k : Nat) (l0_0 : List (List (S93))) (l0_1 : List (List Int)) (a1 : Int) : Option (Int) := if a1 < 0 then (table_Valid.j0 k a1 true l0_0 l0_1) else (table_Valid.j0 k a1 (decide (a1 ≥ (l0_0.length : Int))) l0_0 l0_1)
set_option maxHeartbeats 8000000 in
set_option maxRecDepth 100000 in
theorem table_Valid.calls (k : Nat) (A0_0 : Option Addr) (c0_0 : Nat) (l0_0 : List (List (S93))) (A0_1 : Option Addr) (c0_1 : Nat) (l0_1 : List (List Int)) (a1 : Int) (r : Int) (w : World) (hr0_0 : Kd.C (Kd.slice 93 k93) w A0_0 l0_0.length l0_0) (hc0_0 : l0_0.length ≤ c0_0) (hr0_1 : Kd.C (Kd.slice 3 (Kd.int .i64)) w A0_1 l0_1.length l0_1) (hc0_1 : l0_1.length ≤ c0_1) (h : table_Valid.f k l0_0 l0_1 a1 = some r) :
  Calls Tryd.prog 45 #[.agg #[.slice A0_0 l0_0.length c0_0, .slice A0_1 l0_1.length c0_1], .int .i64 a1] w fun e w' => e = .returned (.int .u64 r) ∧ Below w.heap.size w w' := by
 have hu25 := Tryd.underlying25; have hu93 := Tryd.underlying93; have HR0_0 := zaf.mk hr0_0; have HC0_0 := zaf.mk hc0_0; clear hr0_0 hc0_0; have HR0_1 := zaf.mk hr0_1; have HC0_1 := zaf.mk hc0_1; clear hr0_1 hc0_1; have HB := zaf.mk (Below.refl w.heap.size w); have H : (if a1 < 0 then (table_Valid.j0 k a1 true l0_0 l0_1) else (table_Valid.j0 k a1 (decide (a1 ≥ (l0_0.length : Int))) l0_0 l0_1)) = some r := h
 clear h; have HC3 := zaf.mk H; clear H
 go_enter Tryd.func45, Tryd.ntmps45
 go_upto_region 1 with (first | ((with_reducible refine zbb (N := 2) rfl ?_); (try (refine zbd (by rfl) ?_; dsimp only)); refine zaz ?hg (N := 2) ?hd (cs := #[.slice A0_0 l0_0.length c0_0, .slice A0_1 l0_1.length c0_1]) (t := 25) ?hr ?_; (case hd => rfl); (case hg => rfl); (case hr => first | (go_simp; done) | (go_simp; rfl)); intro gb251 hg w4 hbox hb; have n0_ := zaf.mk (zam (by repeat (first | (with_reducible first | exact HB.out | apply zab | apply zaa | apply zah) | exact HB.out)) hb); have n1_ := zaf.mk (hbox); have n2_ := zaf.mk ((by rw [hg]; exact (zan (by repeat (first | (with_reducible first | exact HB.out | apply zab | apply zaa | apply zah) | exact HB.out))) : w.heap.size ≤ gb251)); have n3_ := zaf.mk ((by rw [hg]; exact (zan (by repeat (first | (with_reducible first | exact HB.out | apply zab | apply zaa | apply zah) | exact HB.out))) : w.heap.size ≤ gb251)); clear HB; have HB := n0_; have BK251 := n1_; have GW251 := n2_; have GE251 := n3_; clear n0_ n1_ n2_ n3_; clear hb hbox hg))
 (try simp only [Act.put, List.setIfInBounds_toArray, List.set_cons_zero, List.set_cons_succ])
 go_cut [16] (fun v16 wc => ∃ (kq : Nat) (x16_2 : Bool), v16 = .bool x16_2 ∧ zaf (table_Valid.j0 kq a1 x16_2 l0_0 l0_1 = some r) ∧ zaf (kq ≤ k) ∧ zaf (wc.heap[gb251]? = some (.cells #[(.slice A0_0 l0_0.length c0_0), (.slice A0_1 l0_1.length c0_1)] 25 (0, 0))) ∧ zaf (Below w.heap.size w wc))
 case first =>
  have H := HC3.out; clear HC3; by_cases c5 : a1 < 0
  ·rw [if_pos c5] at H; have c5b0 : decide (a1 < 0) = true := decide_eq_true c5; clear c5
   (first | rw [c5b0] | (simp only [i64_w, i32_w]; rw [c5b0]) | skip)
   have H' := zaf.mk H; clear H; go_wp2
   go_meet
   case rel => exact ⟨_, (true), (by first | rfl | (simp; done) | (simp [*]; done)), H', ⟨by first | omega | exact Nat.le_refl _⟩, ⟨by (with_reducible repeat (first | apply zai | apply zaj | apply zad)); exact BK251.out⟩, ⟨by repeat (first | (with_reducible first | exact HB.out | apply zab | apply zaa | apply zah | refine zae ?_ GE251.out) | exact HB.out)⟩⟩
  ·rw [if_neg c5] at H; have c5b0 : decide (a1 < 0) = false := decide_eq_false c5; clear c5
   (first | rw [c5b0] | (simp only [i64_w, i32_w]; rw [c5b0]) | skip)
   have H' := zaf.mk H; clear H; have hcz6_0 : w4.cell? ⟨gb251, 0, none⟩ = some (.slice A0_0 l0_0.length c0_0) := (zac BK251.out 0).trans rfl; have hcz6_1 : w4.cell? ⟨gb251, 1, none⟩ = some (.slice A0_1 l0_1.length c0_1) := (zac BK251.out 1).trans rfl; have hfz6_0 := zak BK251.out 0; have hfz6_1 := zak BK251.out 1; go_wp2
   go_meet
   case rel => exact ⟨_, (decide (a1 ≥ (l0_0.length : Int))), (by first | rfl | (simp; done) | (simp [*]; done)), H', ⟨by first | omega | exact Nat.le_refl _⟩, ⟨by (with_reducible repeat (first | apply zai | apply zaj | apply zad)); exact BK251.out⟩, ⟨by repeat (first | (with_reducible first | exact HB.out | apply zab | apply zaa | apply zah | refine zae ?_ GE251.out) | exact HB.out)⟩⟩
 case rest =>
  clear HC3
  try clear p2
  try clear c4
  try clear c5
  try clear c5b0
  try clear hcz6_0
  try clear hcz6_1
  try clear hfz6_0
  try clear hfz6_1
  obtain ⟨kq, x16_2, rfl, HA, HJ2, BK251, HB⟩ := hcut; cases kq with
  | zero => exact absurd HA.out (by simp [table_Valid.j0])
  | succ kj2 =>
   have H := HA.out; clear HA; simp only [table_Valid.j0] at H; by_cases c7 : x16_2 = true
   ·subst c7; have H1 : (some 0) = some r := by rw [if_pos rfl] at H; exact H
    clear H; have H := H1; clear H1; obtain rfl := Option.some.inj H; go_wp2; go_ret; exact ⟨by first | rfl | (simp [errW_none, errW_some] <;> rfl) | (simp [*, errW_none, errW_some] <;> rfl), by repeat (first | (with_reducible first | exact HB.out | apply zab | apply zaa | apply zah | refine zae ?_ GE251.out) | exact HB.out)⟩
   ·replace c7 := Bool.eq_false_iff.mpr c7; subst c7; have H1 : (if 0 ≤ a1 then (if a1 < (l0_0.length : Int) then (table_Valid.l0 kj2 0 (rd_L2 l0_0 a1) ((rd_L2 l0_0 a1).length : Int) 0) else (none)) else (none)) = some r := by rw [if_neg (show ¬ (false = true) by decide)] at H; exact H
    clear H; have H := H1; clear H1; by_cases c8 : 0 ≤ a1
    ·rw [if_pos c8] at H; have c8b0 : decide (0 ≤ a1) = true := decide_eq_true c8; clear c8; by_cases c9 : a1 < (l0_0.length : Int)
     ·rw [if_pos c9] at H; have c9b0 : decide (a1 < (l0_0.length : Int)) = true := decide_eq_true c9; clear c9; have H' := zaf.mk H; clear H; have hcz10_0 : wc.cell? ⟨gb251, 0, none⟩ = some (.slice A0_0 l0_0.length c0_0) := (zac BK251.out 0).trans rfl; have hcz10_1 : wc.cell? ⟨gb251, 1, none⟩ = some (.slice A0_1 l0_1.length c0_1) := (zac BK251.out 1).trans rfl; have hfz10_0 := zak BK251.out 0; have hfz10_1 := zak BK251.out 1; have p252 : 0 ≤ (a1 : Int) := of_decide_eq_true (by first | (with_reducible assumption) | assumption)
      have q252 : a1 < (l0_0.length : Int) := of_decide_eq_true (by first | (with_reducible assumption) | assumption)
      obtain ⟨ad252, A252_0, c252_0, e252, hx252_0, hl252_0, hi252_0⟩ := at_L2 HR0_0.out a1 p252 q252; cases e252; replace hx252_0 := (HB.out.cell (World.block_lt_of_cell? w _ hx252_0)).trans hx252_0; have HR252_0 := zaf.mk hi252_0; have HC252_0 := zaf.mk hl252_0; clear hi252_0 hl252_0; replace p252 := eq_true p252; replace q252 := eq_true q252; go_wp2
      go_loopg [5, 23] kj2 (fun kq v5 v23 w' => ∃ (x5_2 : Int) (x23_2 : Int), v5 = .int .u64 x5_2 ∧ v23 = .int .i64 x23_2 ∧ zaf (table_Valid.l0 kq x5_2 (rd_L2 l0_0 a1) ((rd_L2 l0_0 a1).length : Int) x23_2 = some r) ∧ zaf (kq ≤ kj2) ∧ zaf (w'.heap[gb251]? = some (.cells #[(.slice (some ad252) l0_0.length c0_0), (.slice A0_1 l0_1.length c0_1)] 25 (0, 0))) ∧ zaf (Below w.heap.size w w'))
      case atStart => exact ⟨(0), (0), (by first | rfl | (simp; done) | (simp [*]; done)), (by first | rfl | (simp; done) | (simp [*]; done)), H', ⟨Nat.le_refl _⟩, ⟨by (with_reducible repeat (first | apply zai | apply zaj | apply zad)); exact BK251.out⟩, ⟨by repeat (first | (with_reducible first | exact HB.out | apply zab | apply zaa | apply zah | refine zae ?_ GE251.out) | exact HB.out)⟩⟩
      case round =>
       clear H'
       try clear c2
       try clear p2
       try clear q2
       try clear hx2
       try clear c4
       try clear c5
       try clear c5b0
       try clear c7
       try clear c8
       try clear c8b0
       try clear c9
       try clear c9b0
       try clear hcz10_0
       try clear hcz10_1
       try clear hcz6_0
       try clear hcz6_1
       try clear hfz10_0
       try clear hfz10_1
       try clear hfz6_0
       try clear hfz6_1
       try clear hx252_0
       try clear p2
       try clear p252
       try clear q252
       obtain ⟨x5_2, x23_2, rfl, rfl, HA, HK2, BK251, HB⟩ := hrel; cases gk with
       | zero => exact absurd HA.out (by simp [table_Valid.l0])
       | succ k2 =>
        have H := HA.out; clear HA; simp only [table_Valid.l0] at H; by_cases c11 : x23_2 < ((rd_L2 l0_0 a1).length : Int)
        ·rw [if_pos c11] at H; have c11b0 : decide (x23_2 < ((rd_L2 l0_0 a1).length : Int)) = true := decide_eq_true c11; clear c11; by_cases c12 : 0 ≤ x23_2
         ·rw [if_pos c12] at H; have c12b0 : decide (0 ≤ x23_2) = true := decide_eq_true c12; clear c12; by_cases c13 : x23_2 < ((rd_L2 l0_0 a1).length : Int)
          ·rw [if_pos c13] at H; have c13b0 : decide (x23_2 < ((rd_L2 l0_0 a1).length : Int)) = true := decide_eq_true c13; clear c13; by_cases c14 : ((rd_T93 (rd_L2 l0_0 a1) x23_2).f0) = 0
           ·rw [if_pos c14] at H; have c14b0 : (((rd_T93 (rd_L2 l0_0 a1) x23_2).f0) == 0) = true := beq_iff_eq.mpr c14; have c14b1 : (((rd_T93 (rd_L2 l0_0 a1) x23_2).f0) != 0) = false := bne_eq_false_iff_eq.mpr c14; clear c14; have H' := zaf.mk H; clear H; have p253 : 0 ≤ (x23_2 : Int) := of_decide_eq_true (by first | (with_reducible assumption) | assumption)
            have q253 : x23_2 < ((rd_L2 l0_0 a1).length : Int) := of_decide_eq_true (by first | (with_reducible assumption) | assumption)
            obtain ⟨ad253, e253, hx253_0, hx253_1⟩ := at_T93 HR252_0.out x23_2 p253 q253; cases e253; replace hx253_0 := (HB.out.cell (World.block_lt_of_cell? w _ hx253_0)).trans hx253_0; replace hx253_1 := (HB.out.cell (World.block_lt_of_cell? w _ hx253_1)).trans hx253_1; replace p253 := eq_true p253; replace q253 := eq_true q253
            go_wp2_with (first | ((with_reducible refine zbb (N := 7) rfl ?_); (try (refine zbd (by rfl) ?_; dsimp only)); refine zaz ?hg (N := 7) ?hd (cs := #[.int .i64 0, .int .i64 0]) (t := 93) ?hr ?_; (case hd => rfl); (case hg => rfl); (case hr => first | (go_simp; done) | (go_simp; rfl)); intro gb254 hg w15 hbox hb; have n0_ := zaf.mk (zal (g := gb251) (o := .cells #[.slice (some ad252) l0_0.length c0_0, .slice A0_1 l0_1.length c0_1] 25 (0, 0)) (by (with_reducible repeat (first | apply zai | apply zaj | apply zad)); exact BK251.out) hb); have n1_ := zaf.mk (zam (by repeat (first | (with_reducible first | exact HB.out | apply zab | apply zaa | apply zah | refine zae ?_ GE251.out) | exact HB.out)) hb); have n2_ := zaf.mk (hbox); have n3_ := zaf.mk ((by rw [hg]; exact (zan (by repeat (first | (with_reducible first | exact HB.out | apply zab | apply zaa | apply zah | refine zae ?_ GE251.out) | exact HB.out))) : w.heap.size ≤ gb254)); have n4_ := zaf.mk ((by rw [hg]; exact (zan (by repeat (first | (with_reducible first | exact HB.out | apply zab | apply zaa | apply zah | refine zae ?_ GE251.out) | exact HB.out))) : w.heap.size ≤ gb254)); have n5_ := zaf.mk ((by rw [hg]; exact Nat.ne_of_lt (zau (g := gb251) (o := .cells #[.slice (some ad252) l0_0.length c0_0, .slice A0_1 l0_1.length c0_1] 25 (0, 0)) (by (with_reducible repeat (first | apply zai | apply zaj | apply zad)); exact BK251.out)) : gb251 ≠ gb254)); have n6_ := zaf.mk ((by rw [hg]; exact Nat.ne_of_gt (zau (g := gb251) (o := .cells #[.slice (some ad252) l0_0.length c0_0, .slice A0_1 l0_1.length c0_1] 25 (0, 0)) (by (with_reducible repeat (first | apply zai | apply zaj | apply zad)); exact BK251.out)) : gb254 ≠ gb251)); clear BK251; clear HB; have BK251 := n0_; have HB := n1_; have BK254 := n2_; have GW254 := n3_; have GE254 := n4_; have NB251_254 := n5_; have NB254_251 := n6_; clear n0_ n1_ n2_ n3_ n4_ n5_ n6_; clear hb hbox hg; have hnb16 := NB254_251.out; have hnc16 := NB251_254.out; have hcz17_0 : w15.cell? ⟨gb254, 0, none⟩ = some (.int .i64 0) := (zac BK254.out 0).trans rfl; have hcz17_1 : w15.cell? ⟨gb254, 1, none⟩ = some (.int .i64 0) := (zac BK254.out 1).trans rfl; have hfz17_0 := zak BK254.out 0; have hfz17_1 := zak BK254.out 1))
            go_roundg k2
            case measure => have := HJ2.out; have := HK2.out; omega
            case rel => exact ⟨(x5_2), (wrap64 (x23_2 + 1)), (by first | rfl | (simp; done) | (simp [*]; done)), (by first | rfl | (simp; done) | (simp [*]; done)), H', ⟨by have := HJ2.out; have := HK2.out; omega⟩, ⟨by (with_reducible repeat (first | apply zai | apply zaj | apply zad)); refine zaq ?_ NB251_254.out _; (with_reducible repeat (first | apply zai | apply zaj | apply zad)); refine zaq ?_ NB251_254.out _; (with_reducible repeat (first | apply zai | apply zaj | apply zad)); exact BK251.out⟩, ⟨by repeat (first | (with_reducible first | exact HB.out | apply zab | apply zaa | apply zah | refine zae ?_ GE251.out | refine zae ?_ GE254.out) | exact HB.out)⟩⟩
           ·rw [if_neg c14] at H; have c14b0 : (((rd_T93 (rd_L2 l0_0 a1) x23_2).f0) == 0) = false := beq_eq_false_iff_ne.mpr c14; have c14b1 : (((rd_T93 (rd_L2 l0_0 a1) x23_2).f0) != 0) = true := bne_iff_ne.mpr c14; by_cases c18 : x23_2 < 64
            ·rw [if_pos c18] at H; have c18b0 : decide (x23_2 < 64) = true := decide_eq_true c18; clear c18; have c19b0 := eq_true (of_decide_eq_true (by first | (with_reducible assumption) | assumption) : 0 ≤ x23_2)
             obtain ⟨ji20, hji20⟩ : ∃ j_ : Int, (shl .u64 1 x23_2) = j_ := ⟨_, rfl⟩; replace H : (table_Valid.l0 k2 (Go.bits .or .u64 x5_2 (ji20)) (rd_L2 l0_0 a1) ((rd_L2 l0_0 a1).length : Int) (wrap64 (x23_2 + 1))) = some r := by first | (rw [hji20] at H; exact H) | (simp only [hji20] at H ⊢; exact H)
             have hji20_ : (IntKind.u64.wrap (1 * 2 ^ min x23_2.toNat 64)) = ji20 := hji20; have hji20z : x23_2 ≤ 64 → (IntKind.u64.wrap (1 * 2 ^ x23_2.toNat)) = ji20 := shl_small hji20; have hji20u : (IntKind.u64.wrap (2 ^ min x23_2.toNat 64)) = ji20 := by have h_ := hji20_; rw [Int.one_mul] at h_; exact h_
             have hji20v : x23_2 ≤ 64 → (IntKind.u64.wrap (2 ^ x23_2.toNat)) = ji20 := fun hle_ => by have h_ := hji20z hle_; rw [Int.one_mul] at h_; exact h_
             have H' := zaf.mk H; clear H; have p253 : 0 ≤ (x23_2 : Int) := of_decide_eq_true (by first | (with_reducible assumption) | assumption)
             have q253 : x23_2 < ((rd_L2 l0_0 a1).length : Int) := of_decide_eq_true (by first | (with_reducible assumption) | assumption)
             obtain ⟨ad253, e253, hx253_0, hx253_1⟩ := at_T93 HR252_0.out x23_2 p253 q253; cases e253; replace hx253_0 := (HB.out.cell (World.block_lt_of_cell? w _ hx253_0)).trans hx253_0; replace hx253_1 := (HB.out.cell (World.block_lt_of_cell? w _ hx253_1)).trans hx253_1; replace p253 := eq_true p253; replace q253 := eq_true q253
             go_wp2_with (first | ((with_reducible refine zbb (N := 7) rfl ?_); (try (refine zbd (by rfl) ?_; dsimp only)); refine zaz ?hg (N := 7) ?hd (cs := #[.int .i64 0, .int .i64 0]) (t := 93) ?hr ?_; (case hd => rfl); (case hg => rfl); (case hr => first | (go_simp; done) | (go_simp; rfl)); intro gb254 hg w21 hbox hb; have n0_ := zaf.mk (zal (g := gb251) (o := .cells #[.slice (some ad252) l0_0.length c0_0, .slice A0_1 l0_1.length c0_1] 25 (0, 0)) (by (with_reducible repeat (first | apply zai | apply zaj | apply zad)); exact BK251.out) hb); have n1_ := zaf.mk (zam (by repeat (first | (with_reducible first | exact HB.out | apply zab | apply zaa | apply zah | refine zae ?_ GE251.out) | exact HB.out)) hb); have n2_ := zaf.mk (hbox); have n3_ := zaf.mk ((by rw [hg]; exact (zan (by repeat (first | (with_reducible first | exact HB.out | apply zab | apply zaa | apply zah | refine zae ?_ GE251.out) | exact HB.out))) : w.heap.size ≤ gb254)); have n4_ := zaf.mk ((by rw [hg]; exact (zan (by repeat (first | (with_reducible first | exact HB.out | apply zab | apply zaa | apply zah | refine zae ?_ GE251.out) | exact HB.out))) : w.heap.size ≤ gb254)); have n5_ := zaf.mk ((by rw [hg]; exact Nat.ne_of_lt (zau (g := gb251) (o := .cells #[.slice (some ad252) l0_0.length c0_0, .slice A0_1 l0_1.length c0_1] 25 (0, 0)) (by (with_reducible repeat (first | apply zai | apply zaj | apply zad)); exact BK251.out)) : gb251 ≠ gb254)); have n6_ := zaf.mk ((by rw [hg]; exact Nat.ne_of_gt (zau (g := gb251) (o := .cells #[.slice (some ad252) l0_0.length c0_0, .slice A0_1 l0_1.length c0_1] 25 (0, 0)) (by (with_reducible repeat (first | apply zai | apply zaj | apply zad)); exact BK251.out)) : gb254 ≠ gb251)); clear BK251; clear HB; have BK251 := n0_; have HB := n1_; have BK254 := n2_; have GW254 := n3_; have GE254 := n4_; have NB251_254 := n5_; have NB254_251 := n6_; clear n0_ n1_ n2_ n3_ n4_ n5_ n6_; clear hb hbox hg; have hnb22 := NB254_251.out; have hnc22 := NB251_254.out; have hcz23_0 : w21.cell? ⟨gb254, 0, none⟩ = some (.int .i64 0) := (zac BK254.out 0).trans rfl; have hcz23_1 : w21.cell? ⟨gb254, 1, none⟩ = some (.int .i64 0) := (zac BK254.out 1).trans rfl; have hfz23_0 := zak BK254.out 0; have hfz23_1 := zak BK254.out 1))
             go_roundg k2
             case measure => have := HJ2.out; have := HK2.out; omega
             case rel => exact ⟨(Go.bits .or .u64 x5_2 (ji20)), (wrap64 (x23_2 + 1)), (by first | rfl | (simp; done) | (simp only [← hji20] <;> (first | rfl | simp)) | (simp [*]; done)), (by first | rfl | (simp; done) | (simp [*]; done)), H', ⟨by have := HJ2.out; have := HK2.out; omega⟩, ⟨by (with_reducible repeat (first | apply zai | apply zaj | apply zad)); refine zaq ?_ NB251_254.out _; (with_reducible repeat (first | apply zai | apply zaj | apply zad)); refine zaq ?_ NB251_254.out _; (with_reducible repeat (first | apply zai | apply zaj | apply zad)); exact BK251.out⟩, ⟨by repeat (first | (with_reducible first | exact HB.out | apply zab | apply zaa | apply zah | refine zae ?_ GE251.out | refine zae ?_ GE254.out) | exact HB.out)⟩⟩
            ·rw [if_neg c18] at H; have c18b0 : decide (x23_2 < 64) = false := decide_eq_false c18; clear c18; have H' := zaf.mk H; clear H; have p253 : 0 ≤ (x23_2 : Int) := of_decide_eq_true (by first | (with_reducible assumption) | assumption)
             have q253 : x23_2 < ((rd_L2 l0_0 a1).length : Int) := of_decide_eq_true (by first | (with_reducible assumption) | assumption)
             obtain ⟨ad253, e253, hx253_0, hx253_1⟩ := at_T93 HR252_0.out x23_2 p253 q253; cases e253; replace hx253_0 := (HB.out.cell (World.block_lt_of_cell? w _ hx253_0)).trans hx253_0; replace hx253_1 := (HB.out.cell (World.block_lt_of_cell? w _ hx253_1)).trans hx253_1; replace p253 := eq_true p253; replace q253 := eq_true q253
             go_wp2_with (first | ((with_reducible refine zbb (N := 7) rfl ?_); (try (refine zbd (by rfl) ?_; dsimp only)); refine zaz ?hg (N := 7) ?hd (cs := #[.int .i64 0, .int .i64 0]) (t := 93) ?hr ?_; (case hd => rfl); (case hg => rfl); (case hr => first | (go_simp; done) | (go_simp; rfl)); intro gb254 hg w24 hbox hb; have n0_ := zaf.mk (zal (g := gb251) (o := .cells #[.slice (some ad252) l0_0.length c0_0, .slice A0_1 l0_1.length c0_1] 25 (0, 0)) (by (with_reducible repeat (first | apply zai | apply zaj | apply zad)); exact BK251.out) hb); have n1_ := zaf.mk (zam (by repeat (first | (with_reducible first | exact HB.out | apply zab | apply zaa | apply zah | refine zae ?_ GE251.out) | exact HB.out)) hb); have n2_ := zaf.mk (hbox); have n3_ := zaf.mk ((by rw [hg]; exact (zan (by repeat (first | (with_reducible first | exact HB.out | apply zab | apply zaa | apply zah | refine zae ?_ GE251.out) | exact HB.out))) : w.heap.size ≤ gb254)); have n4_ := zaf.mk ((by rw [hg]; exact (zan (by repeat (first | (with_reducible first | exact HB.out | apply zab | apply zaa | apply zah | refine zae ?_ GE251.out) | exact HB.out))) : w.heap.size ≤ gb254)); have n5_ := zaf.mk ((by rw [hg]; exact Nat.ne_of_lt (zau (g := gb251) (o := .cells #[.slice (some ad252) l0_0.length c0_0, .slice A0_1 l0_1.length c0_1] 25 (0, 0)) (by (with_reducible repeat (first | apply zai | apply zaj | apply zad)); exact BK251.out)) : gb251 ≠ gb254)); have n6_ := zaf.mk ((by rw [hg]; exact Nat.ne_of_gt (zau (g := gb251) (o := .cells #[.slice (some ad252) l0_0.length c0_0, .slice A0_1 l0_1.length c0_1] 25 (0, 0)) (by (with_reducible repeat (first | apply zai | apply zaj | apply zad)); exact BK251.out)) : gb254 ≠ gb251)); clear BK251; clear HB; have BK251 := n0_; have HB := n1_; have BK254 := n2_; have GW254 := n3_; have GE254 := n4_; have NB251_254 := n5_; have NB254_251 := n6_; clear n0_ n1_ n2_ n3_ n4_ n5_ n6_; clear hb hbox hg; have hnb25 := NB254_251.out; have hnc25 := NB251_254.out; have hcz26_0 : w24.cell? ⟨gb254, 0, none⟩ = some (.int .i64 0) := (zac BK254.out 0).trans rfl; have hcz26_1 : w24.cell? ⟨gb254, 1, none⟩ = some (.int .i64 0) := (zac BK254.out 1).trans rfl; have hfz26_0 := zak BK254.out 0; have hfz26_1 := zak BK254.out 1))
             go_roundg k2
             case measure => have := HJ2.out; have := HK2.out; omega
             case rel => exact ⟨(x5_2), (wrap64 (x23_2 + 1)), (by first | rfl | (simp; done) | (simp [*]; done)), (by first | rfl | (simp; done) | (simp [*]; done)), H', ⟨by have := HJ2.out; have := HK2.out; omega⟩, ⟨by (with_reducible repeat (first | apply zai | apply zaj | apply zad)); refine zaq ?_ NB251_254.out _; (with_reducible repeat (first | apply zai | apply zaj | apply zad)); refine zaq ?_ NB251_254.out _; (with_reducible repeat (first | apply zai | apply zaj | apply zad)); exact BK251.out⟩, ⟨by repeat (first | (with_reducible first | exact HB.out | apply zab | apply zaa | apply zah | refine zae ?_ GE251.out | refine zae ?_ GE254.out) | exact HB.out)⟩⟩
          ·rw [if_neg c13] at H; exact absurd H (by simp)
         ·rw [if_neg c12] at H; exact absurd H (by simp)
        ·rw [if_neg c11] at H; have c11b0 : decide (x23_2 < ((rd_L2 l0_0 a1).length : Int)) = false := decide_eq_false c11; clear c11; obtain rfl := Option.some.inj H; go_wp2; go_ret; exact ⟨by first | rfl | (simp [errW_none, errW_some] <;> rfl) | (simp [*, errW_none, errW_some] <;> rfl), by repeat (first | (with_reducible first | exact HB.out | apply zab | apply zaa | apply zah | refine zae ?_ GE251.out) | exact HB.out)⟩
     ·rw [if_neg c9] at H; exact absurd H (by simp)
    ·rw [if_neg c8] at H; exact absurd H (by simp)
end Go.Proofs.YtcijanmckhlpiaaDoor.PTableBack
namespace Go.Proofs.YtcijanmckhlpiaaDoor
open Go.RowKit Go.Proofs.YtcijanmckhlpiaaDoorW.PrintWords Go.Proofs.YtcijanmckhlpiaaDoorW.PrintLast Go.Proofs.YtcijanmckhlpiaaDoorW.PrintMore
namespace Dec
theorem RowsOwn.reads {α : Type} {k : Kd α} {t o : Nat} {W : World} {base : Nat} {vl v : Value} {rows : List (List α)} (h : RowsOwn k t o W base vl v rows) : ∃ A c, v = .slice A rows.length c ∧ rows.length ≤ c ∧ (Kd.slice t k).C W A rows.length rows := by
 obtain ⟨hs, h1, h2, _⟩ := h; obtain ⟨A, c, e, hc, hC⟩ := Kd.zbe h1; have hl := h2.len; rw [List.length_map] at hl; have e1 := h2.readsH hC; rw [hl] at e hc e1; exact ⟨A, c, e, hc, e1⟩
end Dec
namespace Bld
theorem C_lits {α : Type} {k : Kd α} {W : World} {b t : Nat} {cells : Array Value} (hb : W.heap[b]? = some (.cells cells t (0, 0))) (xs : List α) {n : Nat} (hn : xs.length = n) (hm : n ≤ 9223372036854775807) (h : ∀ j x, xs[j]? = some x → ∃ cs : List Value, cs.length = k.sz ∧ k.K W x cs ∧ ∀ i u, cs[i]? = some u → cells[j * k.sz + i]? = some u) : k.C W (some ⟨b, 0, none⟩) n xs := by
 refine ⟨hn, hm, fun _ => ⟨_, rfl, fun j x hx => ?_⟩⟩
 obtain ⟨cs, h1, h2, h3⟩ := h j x hx; refine ⟨cs, h1, h2, fun i u hu => ?_⟩
 rw [Addr.add_mid, zac hb, Nat.zero_add]; exact h3 i u hu
theorem C_map {α β : Type} {d : Kd α} {d' : Kd β} (f : α → β) (hs : d.sz = d'.sz) {w : World} (h : ∀ x cs, d.K w x cs → d'.K w (f x) cs) {A : Option Addr} {n : Nat} {xs : List α} (hc : d.C w A n xs) : d'.C w A n (xs.map f) := by
 obtain ⟨h1, h2, h3⟩ := hc; refine ⟨by rw [List.length_map]; exact h1, h2, fun hp => ?_⟩
 obtain ⟨ad, e, hh⟩ := h3 hp; refine ⟨ad, e, fun j p hj => ?_⟩
 rw [List.getElem?_map] at hj; cases hx : xs[j]? with
 | none => rw [hx] at hj; cases hj
 | some x =>
  rw [hx] at hj; cases hj; obtain ⟨cs, c1, c2, c3⟩ := hh j x hx; exact ⟨cs, by rw [← hs]; exact c1, h x cs c2, by rw [← hs]; exact c3⟩
def cvA (a : PTableBuilds.S93) : PTableBack.S93 := ⟨a.f0, a.f1⟩
theorem cvA_K (w : World) (x : PTableBuilds.S93) (cs : List Value) (h : PTableBuilds.k93.K w x cs) : PTableBack.k93.K w (cvA x) cs := by
 obtain ⟨a, b, h1, h2, h3⟩ := h; exact ⟨a, b, h1, h2, h3⟩
theorem C_cv {w : World} {A : Option Addr} {n : Nat} {rows : List (List PTableBuilds.S93)} (h : (Kd.slice 93 PTableBuilds.k93).C w A n rows) : (Kd.slice 93 PTableBack.k93).C w A n (rows.map (List.map cvA)) :=
 C_map (List.map cvA) rfl (fun x cs hx => by
  obtain ⟨A, c, e, hl, hC⟩ := hx; exact ⟨A, c, by rw [List.length_map]; exact e, by rw [List.length_map]; exact hl, by rw [List.length_map]; exact C_map cvA rfl (cvA_K w) hC⟩) h
def awW (w : World) : World := ((((((w.alloc (.cells #[.string ⟨#[]⟩, .bool false, .string ⟨#[97]⟩, .bool false] 112)).alloc (.cells #[.string ⟨#[115]⟩, .int .i64 1] 115)).alloc (.cells #[.slice (some ⟨w.heap.size, 0, none⟩) 2 2, .slice (some ⟨w.heap.size + 1, 0, none⟩) 1 1, .slice (some ⟨w.heap.size + 1 + 1 + 1 + 1 + 1, 0, none⟩) 3 3] 51)).alloc (.cells #[.int .i64 2, .string ⟨#[]⟩, .string ⟨#[]⟩] 110)).alloc (.cells #[.int .i64 1, .string ⟨#[]⟩, .string ⟨#[]⟩, .int .i64 2, .string ⟨#[]⟩, .string ⟨#[]⟩] 110)).alloc (.cells #[.int .i64 (-1), .slice (some ⟨w.heap.size + 1 + 1 + 1, 0, none⟩) 1 1, .int .i64 0, .slice (some ⟨w.heap.size + 1 + 1 + 1 + 1, 0, none⟩) 2 2, .int .i64 0, .slice none 0 0] 77))
theorem awW_below (w : World) : Below w.heap.size w (awW w) := zab (zab (zab (zab (zab (zab (Below.refl _ _) _) _) _) _) _) _
theorem awW_blk (w : World) : (awW w).heap[w.heap.size]? = some (.cells #[.string ⟨#[]⟩, .bool false, .string ⟨#[97]⟩, .bool false] 112 (0, 0)) ∧ (awW w).heap[w.heap.size + 1]? = some (.cells #[.string ⟨#[115]⟩, .int .i64 1] 115 (0, 0))
  ∧ (awW w).heap[w.heap.size + 1 + 1]? = some (.cells #[.slice (some ⟨w.heap.size, 0, none⟩) 2 2, .slice (some ⟨w.heap.size + 1, 0, none⟩) 1 1, .slice (some ⟨w.heap.size + 1 + 1 + 1 + 1 + 1, 0, none⟩) 3 3] 51 (0, 0))
  ∧ (awW w).heap[w.heap.size + 1 + 1 + 1]? = some (.cells #[.int .i64 2, .string ⟨#[]⟩, .string ⟨#[]⟩] 110 (0, 0))
  ∧ (awW w).heap[w.heap.size + 1 + 1 + 1 + 1]? = some (.cells #[.int .i64 1, .string ⟨#[]⟩, .string ⟨#[]⟩, .int .i64 2, .string ⟨#[]⟩, .string ⟨#[]⟩] 110 (0, 0))
  ∧ (awW w).heap[w.heap.size + 1 + 1 + 1 + 1 + 1]? = some (.cells #[.int .i64 (-1), .slice (some ⟨w.heap.size + 1 + 1 + 1, 0, none⟩) 1 1, .int .i64 0, .slice (some ⟨w.heap.size + 1 + 1 + 1 + 1, 0, none⟩) 2 2, .int .i64 0, .slice none 0 0] 77 (0, 0)) := by
 have key : ∀ (W : World) (n : Nat) (o : Obj), W.heap.size = n → (W.alloc o).heap[n]? = some o := fun W n o h => by subst h; exact zav W o
 unfold awW; refine ⟨?_, ?_, ?_, ?_, ?_, ?_⟩
 ·exact zad (zad (zad (zad (zad (zav w _) _) _) _) _) _
 ·exact zad (zad (zad (zad (key _ _ _ (by simp [szA])) _) _) _) _
 ·exact zad (zad (zad (key _ _ _ (by simp [szA])) _) _) _
 ·exact zad (zad (key _ _ _ (by simp [szA])) _) _
 ·exact zad (key _ _ _ (by simp [szA])) _
 ·exact key _ _ _ (by simp [szA])
section
open PTableBuilds
theorem aw_gr (w : World) : GR (awW w) (some ⟨w.heap.size, 0, none⟩) 2 gT (some ⟨w.heap.size + 1, 0, none⟩) 1 gM (some ⟨w.heap.size + 1 + 1 + 1 + 1 + 1, 0, none⟩) 3 gP := by
 obtain ⟨h1, h2, -, h4, h5, h6⟩ := awW_blk w; refine ⟨C_lits h1 gT rfl (by decide) fun j x hx => ?_, by decide, C_lits h2 gM rfl (by decide) fun j x hx => ?_, by decide, C_lits h6 gP rfl (by decide) fun j x hx => ?_, by decide⟩
 ·match j, hx with
  | 0, hx =>
   cases hx; exact ⟨_, rfl, k112_mk _ _, fun i u hu => by
    match i, hu with
    | 0, hu => cases hu; rfl
    | 1, hu => cases hu; rfl⟩
  | 1, hx =>
   cases hx; exact ⟨_, rfl, k112_mk _ _, fun i u hu => by
    match i, hu with
    | 0, hu => cases hu; rfl
    | 1, hu => cases hu; rfl⟩
 ·match j, hx with
  | 0, hx =>
   cases hx; exact ⟨_, rfl, k115_mk _ _, fun i u hu => by
    match i, hu with
    | 0, hu => cases hu; rfl
    | 1, hu => cases hu; rfl⟩
 ·match j, hx with
  | 0, hx =>
   cases hx; exact ⟨_, rfl, k77_mk _ ⟨-1, [rfB]⟩ (A1 := some ⟨w.heap.size + 1 + 1 + 1, 0, none⟩) (c1 := 1) (by decide) (C_lits h4 [rfB] rfl (by decide) fun j x hx => by
    match j, hx with
    | 0, hx =>
     cases hx; exact ⟨_, rfl, k110_mk _ _, fun i u hu => by
      match i, hu with
      | 0, hu => cases hu; rfl
      | 1, hu => cases hu; rfl
      | 2, hu => cases hu; rfl⟩), fun i u hu => by
    match i, hu with
    | 0, hu => cases hu; rfl
    | 1, hu => cases hu; rfl⟩
  | 1, hx =>
   cases hx; exact ⟨_, rfl, k77_mk _ ⟨0, [rfA, rfB]⟩ (A1 := some ⟨w.heap.size + 1 + 1 + 1 + 1, 0, none⟩) (c1 := 2) (by decide) (C_lits h5 [rfA, rfB] rfl (by decide) fun j x hx => by
    match j, hx with
    | 0, hx =>
     cases hx; exact ⟨_, rfl, k110_mk _ _, fun i u hu => by
      match i, hu with
      | 0, hu => cases hu; rfl
      | 1, hu => cases hu; rfl
      | 2, hu => cases hu; rfl⟩
    | 1, hx =>
     cases hx; exact ⟨_, rfl, k110_mk _ _, fun i u hu => by
      match i, hu with
      | 0, hu => cases hu; rfl
      | 1, hu => cases hu; rfl
      | 2, hu => cases hu; rfl⟩), fun i u hu => by
    match i, hu with
    | 0, hu => cases hu; rfl
    | 1, hu => cases hu; rfl⟩
  | 2, hx =>
   cases hx; exact ⟨_, rfl, k77_mk _ ⟨0, []⟩ (A1 := none) (c1 := 0) (by decide) (Kd.C_nil _ _), fun i u hu => by
    match i, hu with
    | 0, hu => cases hu; rfl
    | 1, hu => cases hu; rfl⟩
end
theorem TbOwn.reads {W : World} {base : Nat} {A B : Option Addr} {n c m d : Nat} {rows : List (List PTableBuilds.S93)} {gos : List (List Int)} (h : TbOwn W base (.slice A n c) (.slice B m d) rows gos) (hn : rows.length = n) (hm : gos.length = m) :
  (Kd.slice 93 PTableBack.k93).C W A n (rows.map (List.map cvA)) ∧ n ≤ c ∧ (Kd.slice 3 kInt).C W B m gos ∧ m ≤ d := by
 obtain ⟨hA, hG, h1, h2, h3, h4⟩ := h.own; obtain ⟨a1, a2, a3⟩ := Kd.zbo h1; obtain ⟨b1, b2, b3⟩ := Kd.zbo h3; have e1 := h2.readsH a3; have e2 := h4.readsH b3; have l1 := h2.len; rw [List.length_map] at l1; have l2 := h4.len; rw [List.length_map] at l2; rw [show hA.length = n by omega] at e1
 rw [show hG.length = m by omega] at e2
 exact ⟨C_cv e1, a2, e2, b2⟩
open PTableBack in
def rowsAwB : List (List PTableBack.S93) := [[⟨2, 2⟩, ⟨1, 1⟩], [⟨2, 2⟩, ⟨1, 1⟩], [⟨3, 0⟩, ⟨0, 0⟩], [⟨2, 1⟩, ⟨0, 0⟩]]
theorem rowsAwB_eq : rowsAw.map (List.map cvA) = rowsAwB := rfl
theorem aw_valid : PTableBack.table_Valid.f 40 rowsAwB gosAw 0 = some 3 := by decide +kernel
theorem aw_sh : Enc.shB rowsAwB gosAw = true := by decide +kernel
theorem encB_size {l : List (List PTableBack.S93)} {m : List (List Int)} (h : Enc.shB l m = true) : 3 ≤ (Enc.encB l m).size ∧ (Enc.encB l m).size ≤ 2000000 := by
 unfold Enc.encB; rw [if_pos h, (Dec.nums_seg (Dec.image_bytes l m)).2]; have hi := Enc.image_len (Enc.shp_of h); refine ⟨?_, by omega⟩
 unfold Enc.image; have hc : 1 ≤ (Enc.cnt l.length).length := by
  unfold Enc.cnt
  split <;> simp
 simp only [List.length_append, List.length_cons, List.length_nil]; omega
set_option maxRecDepth 100000 in
set_option maxHeartbeats 4000000 in
theorem awake_any (w : World) (hT : Tab64 w) (het : Dec.ErrType w) : Calls Tryd.prog 23 #[] w fun e w' => e = .returned (.bool true) ∧ Below w.heap.size w w' := by
 have HTB := Lib.hid (hT.below (awW_below w)); have HET := Lib.hid (het.below (awW_below w)); have HB1 := Lib.hid (awW_below w); have HG := Lib.hid (aw_gr w); have HX := Lib.hid (awW_blk w).2.2.1; clear hT het
 go_enter Tryd.func23, Tryd.ntmps23
 go_wp2_with ((with_reducible refine gate_ (.load 51 (.tmp 1)) rfl ?_); refine Hid.out ?_)
 refine Lib.hid ?_; unfold awW at HTB HET HB1 HG HX; generalize (((((w.alloc (.cells #[.string ⟨#[]⟩, .bool false, .string ⟨#[97]⟩, .bool false] 112)).alloc (.cells #[.string ⟨#[115]⟩, .int .i64 1] 115)).alloc (.cells #[.slice (some ⟨w.heap.size, 0, none⟩) 2 2, .slice (some ⟨w.heap.size + 1, 0, none⟩) 1 1, .slice (some ⟨w.heap.size + 1 + 1 + 1 + 1 + 1, 0, none⟩) 3 3] 51)).alloc (.cells #[.int .i64 2, .string ⟨#[]⟩, .string ⟨#[]⟩] 110)).alloc (.cells #[.int .i64 1, .string ⟨#[]⟩, .string ⟨#[]⟩, .int .i64 2, .string ⟨#[]⟩, .string ⟨#[]⟩] 110)).alloc (.cells #[.int .i64 (-1), .slice (some ⟨w.heap.size + 1 + 1 + 1, 0, none⟩) 1 1, .int .i64 0, .slice (some ⟨w.heap.size + 1 + 1 + 1 + 1, 0, none⟩) 2 2, .int .i64 0, .slice none 0 0] 77) = W1 at *; have x0 := zac HX.out 0; have x1 := zac HX.out 1; have x2 := zac HX.out 2; simp at x0 x1 x2; have hbu := build_any _ 2 gT _ 1 gM _ 3 gP W1 HG.out aw_fair 40 aw_right 5 sol aw_sol aw_fit HTB.out aw_fitB aw_nx (by decide) 200 20 (some (ssA, gsA)) aw_sets aw_ok HET.out
 rw [show buildS gT.length gP (zbf sol.1 sol.2 0 gP) (some (ssA, gsA)) = .inl (rowsAw, gosAw) from aw_build] at hbu; have HBU := Lib.hid hbu; clear hbu
 go_wp2_with (go_at_call 20; refine (HBU.out).mono ?_; rintro e2 w2 ⟨hb2, A2, c2, B2, d2, rfl, htb⟩; refine Hid.out ?_)
 refine Lib.hid ?_; obtain ⟨r1, r2, r3, r4⟩ := htb.reads rfl rfl; rw [rowsAwB_eq] at r1; have HB2 := Lib.hid (zam HB1.out hb2); have HET2 := Lib.hid (HET.out.below hb2); have HB3 := Lib.hid (zab HB2.out (.cells #[.slice A2 rowsAw.length c2, .slice B2 gosAw.length d2] 25)); have HX3 := Lib.hid (zav w2 (.cells #[.slice A2 rowsAw.length c2, .slice B2 gosAw.length d2] 25)); have R1 := Lib.hid (Kd.C_alloc r1 (.cells #[.slice A2 rowsAw.length c2, .slice B2 gosAw.length d2] 25)); have R3 := Lib.hid (Kd.C_alloc r3 (.cells #[.slice A2 rowsAw.length c2, .slice B2 gosAw.length d2] 25)); clear htb r1 r3 hb2 HBU HB2 x0 x1 x2 HX HG HTB HB1; obtain ⟨k1, hk1⟩ := (Enc.enc_ev rowsAwB gosAw (by decide) (by decide)).rounds
 have hdec := Dec.dec_enc aw_sh; have hsz := encB_size aw_sh; generalize Enc.encB rowsAwB gosAw = img at *; have HK1 := Lib.hid hk1; have HDEC := Lib.hid hdec; have hs3 : 3 ≤ img.size := hsz.1; have hs2 : img.size ≤ 140737488351232 := by omega
 clear hk1 hdec hsz
 go_wp2_with ((with_reducible refine gate_ (.load 25 (.tmp 2)) rfl ?_); refine Hid.out ?_)
 refine Lib.hid ?_; rw [show rowsAw.length = rowsAwB.length from rfl] at R1 R3 HX3 HB3 r2; rw [show rowsAw.length = rowsAwB.length from rfl]; have HET3 := Lib.hid (HET2.out.below (zab (Below.refl _ w2) (.cells #[.slice A2 rowsAwB.length c2, .slice B2 gosAw.length d2] 25))); generalize w2.alloc (.cells #[.slice A2 rowsAwB.length c2, .slice B2 gosAw.length d2] 25) = W3 at *; generalize w2.heap.size = tb at *; have t0 := zac HX3.out 0; have t1 := zac HX3.out 1; simp at t0 t1
 go_wp2_with (go_at_call 24; refine (PTableBack.table_Encode.calls k1 A2 c2 rowsAwB B2 d2 gosAw img W3 R1.out r2 R3.out r4 HK1.out).mono ?_; rintro e4 w4 ⟨rfl, hb4⟩; refine Hid.out ?_)
 refine Lib.hid ?_; have hdc := Dec.decode_any img w4 hs2; rw [HDEC.out] at hdc; have HDC := Lib.hid hdc; have HB4 := Lib.hid (zam HB3.out hb4); have HX4 := Lib.hid (zal HX3.out hb4); have R14 := Lib.hid (Kd.zaw R1.out hb4); have R34 := Lib.hid (Kd.zaw R3.out hb4); have HET4 := Lib.hid (HET3.out.below hb4); clear hdc hb4 HB3 HX3 R1 R3 t0 t1 HET2 HET3 HET
 go_wp2_with (go_at_call 9; refine (HDC.out).mono ?_; rintro e5 w5 ⟨hb5, vA, vG, rfl, hA5, hG5⟩; refine Hid.out ?_)
 refine Lib.hid ?_; obtain ⟨A5, c5, rfl, a5, ca5⟩ := Dec.RowsOwn.reads hA5; obtain ⟨B5, d5, rfl, b5, cb5⟩ := Dec.RowsOwn.reads hG5; have hb6 := zab (Below.refl w5.heap.size w5) (.cells #[.slice A5 rowsAwB.length c5, .slice B5 gosAw.length d5] 25); have HB6 := Lib.hid (zam (zam HB4.out hb5) hb6); have HX6 := Lib.hid (zal (zal HX4.out hb5) hb6); have HY6 := Lib.hid (zav w5 (.cells #[.slice A5 rowsAwB.length c5, .slice B5 gosAw.length d5] 25)); have R16 := Lib.hid (Kd.zaw (Kd.zaw R14.out hb5) hb6); have R36 := Lib.hid (Kd.zaw (Kd.zaw R34.out hb5) hb6); have R56 := Lib.hid (Kd.zaw ca5 hb6); have R76 := Lib.hid (Kd.zaw cb5 hb6); clear hA5 hG5 hb5 hb6 HB4 HX4 R14 R34 ca5 cb5 HDC
 go_wp2_with ((with_reducible refine gate_ (.fieldAddr 25 (.tmp 2) 0) rfl ?_); refine Hid.out ?_)
 refine Lib.hid ?_; generalize w5.alloc (.cells #[.slice A5 rowsAwB.length c5, .slice B5 gosAw.length d5] 25) = W6 at *; generalize w5.heap.size = ub at *; have t0 := zac HX6.out 0; have t1 := zac HX6.out 1; simp at t0 t1; have q1 : ((rowsAwB.length : Int) == 4) = true := rfl; have q2 : decide ((img.size : Int) > 2) = true := decide_eq_true (by omega)
 go_wp2_with (go_at_call 45; refine (PTableBack.table_Valid.calls 40 A2 c2 rowsAwB B2 d2 gosAw 0 3 W6 R16.out r2 R36.out r4 aw_valid).mono ?_; rintro e7 w7 ⟨rfl, hb7⟩; refine Hid.out ?_)
 refine Lib.hid ?_; have HB7 := Lib.hid (zam HB6.out hb7); have HX7 := Lib.hid (zal HX6.out hb7); have HY7 := Lib.hid (zal HY6.out hb7); have R17 := Lib.hid (Kd.zaw R16.out hb7); have R37 := Lib.hid (Kd.zaw R36.out hb7); have R57 := Lib.hid (Kd.zaw R56.out hb7); have R77 := Lib.hid (Kd.zaw R76.out hb7); clear hb7 HX6 HY6 R16 R36 R56 R76 HB6 t0 t1; have t0 := zac HX7.out 0; have t1 := zac HX7.out 1; have u0 := zac HY7.out 0; have u1 := zac HY7.out 1; simp at t0 t1 u0 u1
 go_wp2_with (go_at_call 12; refine (Spr.same_true A2 c2 rowsAwB B2 d2 gosAw A5 c5 B5 d5 w7 R17.out R37.out R57.out R77.out (by decide) (by decide)).mono ?_; rintro e8 w8 ⟨rfl, hb8⟩; refine Hid.out ?_)
 refine Lib.hid ?_; have HB8 := Lib.hid (zam HB7.out hb8); clear hb8
 go_wp2_with fail
 go_ret; exact ⟨rfl, HB8.out⟩
end Bld
end Go.Proofs.YtcijanmckhlpiaaDoor
namespace Go.Proofs.YtcijanmckhlpiaaDoor
open Go.RowKit Go.Proofs.YtcijanmckhlpiaaDoorW.PrintWords Go.Proofs.YtcijanmckhlpiaaDoorW.PrintLast Go.Proofs.YtcijanmckhlpiaaDoorW.PrintMore
namespace Apt
open Bld (HD hdr kH kInt)
theorem info95 : (Tryd.prog.info? 95).map (fun i => (i.zero, i.size, i.bytes)) = some (some (.slice none 0 0), 1, 24) := by kernel_rfl
theorem info93a : (Tryd.prog.info? 93).map (fun i => (i.zero, i.size, i.bytes)) = some (some (.agg #[.int .i64 0, .int .i64 0]), 2, 16) := by kernel_rfl
theorem info3a : (Tryd.prog.info? 3).map (fun i => (i.zero, i.size, i.bytes)) = some (some (.int .i64 0), 1, 8) := by kernel_rfl
def tcells (tabs : List (HD × HD)) : List Value := tabs.flatMap fun t => [hdr t.1, hdr t.2]
theorem tcells_get : ∀ (tabs : List (HD × HD)) (i : Nat) (t : HD × HD), tabs[i]? = some t → (tcells tabs)[i * 2]? = some (hdr t.1) ∧ (tcells tabs)[i * 2 + 1]? = some (hdr t.2)
 | [], i, t, h => by simp at h
 | x :: xs, 0, t, h => by
  have e : x = t := by simpa using h
  subst e; exact ⟨rfl, rfl⟩
 | x :: xs, i + 1, t, h => by
  have ih := tcells_get xs i t (by simpa using h)
  have e : tcells (x :: xs) = hdr x.1 :: hdr x.2 :: tcells xs := rfl; rw [e, show (i + 1) * 2 = i * 2 + 1 + 1 by omega]
  exact ⟨ih.1, ih.2⟩
theorem flatten_take_succ {α : Type} {l : List (List α)} {i : Nat} {x : List α} (h : l[i]? = some x) : (l.take (i + 1)).flatten = (l.take i).flatten ++ x := by
 obtain ⟨hi, he⟩ := List.getElem?_eq_some_iff.1 h; rw [List.take_succ_eq_append_getElem hi, List.flatten_append, he]; simp
theorem flatten_take_le {α : Type} (l : List (List α)) (i : Nat) : (l.take i).flatten.length ≤ l.flatten.length := by
 conv => rhs; rw [← List.take_append_drop i l, List.flatten_append, List.length_append]
 omega
theorem news2 {W : World} {b : Nat} {p q : Value} (h : W.heap[b]? = some (Obj.cells #[p, q] 93 (0, 0))) : ∀ (j : Nat) (u : Value), [p, q][j]? = some u → W.cell? ((⟨b, 0, none⟩ : Addr).add j) = some u := by
 intro j u hu; rw [add_plain]; refine (zac h _).trans ?_
 match j with
 | 0 => exact hu
 | 1 => exact hu
 | k + 2 => simp at hu
theorem news1 {W : World} {b : Nat} {p : Value} (h : W.heap[b]? = some (Obj.cells #[p] 3 (0, 0))) : ∀ (j : Nat) (u : Value), [p][j]? = some u → W.cell? ((⟨b, 0, none⟩ : Addr).add j) = some u := by
 intro j u hu; rw [add_plain]; refine (zac h _).trans ?_
 match j with
 | 0 => exact hu
 | k + 1 => simp at hu
structure Fin (base : Nat) (W0 w : World) (hA hG : List HD) (vA vG : Value) (xA xG : List (List Value)) (B1 B2 : Nat) (vL vF : Value) (lsA lsG : List HD) : Prop where
 S : ApS base W0 w hA hG vA vG xA xG
 L : kH.R 90 w B1 tru vL lsA
 F : kH.R 95 w B2 tru vF lsG
 lA : LS 93 2 base W0.heap.size mkA1 mkA2 hA w lsA
 lG : LS 3 1 base W0.heap.size mkG1 mkG2 hG w lsG
theorem Fin.drewN {base : Nat} {W0 w : World} {hA hG : List HD} {vA vG : Value} {xA xG : List (List Value)} {B1 B2 : Nat} {vL vF : Value} {lsA lsG : List HD} (H : Fin base W0 w hA hG vA vG xA xG B1 B2 vL vF lsA lsG) (m : Nat) : Fin base W0 (w.drewN m) hA hG vA vG xA xG B1 B2 vL vF lsA lsG :=
 ⟨H.S.drewN m, Kd.zbc H.L m, Kd.zbc H.F m, H.lA.same (fun _ _ _ _ _ => rfl), H.lG.same (fun _ _ _ _ _ => rfl)⟩
def Left (W0 w : World) (hA hG : List HD) : Prop := w.os = W0.os ∧ w.tape = W0.tape ∧ w.output = W0.output ∧ W0.heap.size ≤ w.heap.size ∧ ∀ k, k < W0.heap.size → (∀ (j : Nat) (h : HD), hA[j]? = some h → (hdr h).ownBlock ≠ some k) → (∀ (j : Nat) (h : HD), hG[j]? = some h → (hdr h).ownBlock ≠ some k) → w.heap[k]? = W0.heap[k]?
theorem eqB93 (d : Nat) (w : World) (x0 y0 : Int) (x1 y1 : Int) :
  (Op.equalIn (d + 2) 93 (.agg #[.int .i64 x0, .int .i64 x1]) (.agg #[.int .i64 y0, .int .i64 y1])).run Tryd.prog w = .ok (x0 == y0 && (x1 == y1)) w := by
 refine eqA_of Tryd.underlying93 (by kernel_rfl) ?_
 refine eqf_cons (by rfl) (by go_simp; rfl) (by go_simp; rfl) (by go_simp) ?_
 exact eqf_last (by rfl) (by go_simp; rfl) (by go_simp; rfl) (by go_simp)
attribute [local go_sem high] eqB93
set_option maxRecDepth 100000 in
set_option maxHeartbeats 4000000 in
theorem apart_any (base bL cL : Nat) (tabs : List (HD × HD)) (hAs hGs : List (List HD)) (W0 : World) (hcells : W0.heap[bL]? = some (.cells (tcells tabs).toArray 25 (0, 0))) (hlA : hAs.length = tabs.length) (hlG : hGs.length = tabs.length)
  (hA : ∀ (i : Nat) (t : HD × HD) (hs : List HD), tabs[i]? = some t → hAs[i]? = some hs → kH.C W0 t.1.1 t.1.2.1 hs) (hG : ∀ (i : Nat) (t : HD × HD) (hs : List HD), tabs[i]? = some t → hGs[i]? = some hs → kH.C W0 t.2.1 t.2.2.1 hs)
  (xA0 xG0 : List (List Value)) (rA : Rws 93 2 base W0 hAs.flatten xA0) (rG : Rws 3 1 base W0 hGs.flatten xG0) (aA : Aparts hAs.flatten) (aG : Aparts hGs.flatten) (hmA : hAs.flatten.length ≤ 1000000) (hmG : hGs.flatten.length ≤ 1000000) (hmt : tabs.length ≤ 1000000)
  (hnA : ∀ h ∈ hAs.flatten, h.2.1 ≤ 4194304) (hnG : ∀ h ∈ hGs.flatten, h.2.1 ≤ 4194304) (hb0 : base ≤ W0.heap.size) :
  Calls Tryd.prog 27 #[.slice (some ⟨bL, 0, none⟩) tabs.length cL] W0 fun e w' => e = .returned (.bool true) ∧ Left W0 w' hAs.flatten hGs.flatten := by
 have HC := Lib.hid hcells; have HLA := Lib.hid (And.intro hlA hlG); have HHA := Lib.hid hA; have HHG := Lib.hid hG; have HRA := Lib.hid rA; have HRG := Lib.hid rG; have HAA := Lib.hid aA; have HAG := Lib.hid aG; have HNA := Lib.hid hnA; have HNG := Lib.hid hnG; have HVA0 : Hid (kH.R 90 W0 W0.heap.size tru (.slice none 0 0) (hAs.take 0).flatten) := Lib.hid (Kd.R_nil _ _ _ _ _); have HVG0 : Hid (kH.R 95 W0 W0.heap.size tru (.slice none 0 0) (hGs.take 0).flatten) := Lib.hid (Kd.R_nil _ _ _ _ _); have HBW0 : Hid (Below W0.heap.size W0 W0) := Lib.hid (Below.refl _ _); have HHA' : Hid (∀ (j : Nat) (h : HD) (k : Nat), hAs.flatten[j]? = some h → (hdr h).ownBlock = some k → k < W0.heap.size) := fun j h k hj hk => by
  obtain ⟨xs, hx, ho⟩ := rA.get hj; exact (zbp ho k hk).2.1
 have HHG' : Hid (∀ (j : Nat) (h : HD) (k : Nat), hGs.flatten[j]? = some h → (hdr h).ownBlock = some k → k < W0.heap.size) := fun j h k hj hk => by
  obtain ⟨xs, hx, ho⟩ := rG.get hj; exact (zbp ho k hk).2.1
 clear hcells hlA hlG hA hG rA rG aA aG hnA hnG
 go_enter Tryd.func27, Tryd.ntmps27
 have tok : True := trivial
 go_wp2_with fail
 go_loopw [3, 4, 5] (fun va vg v w' => ∃ (i : Nat), v = .int .i64 (i : Int) ∧ i ≤ tabs.length ∧ Hid (Below W0.heap.size W0 w') ∧ Hid (kH.R 90 w' W0.heap.size tru va (hAs.take i).flatten) ∧ Hid (kH.R 95 w' W0.heap.size tru vg (hGs.take i).flatten)) (fun _ _ v _ => tabs.length - (intOf v).toNat)
 case atStart => exact ⟨0, rfl, Nat.zero_le _, HBW0, HVA0, HVG0⟩
 case round =>
  clear HVA0 HVG0 HBW0; obtain ⟨i, rfl, hi, HBW, HVA, HVG⟩ := hrel; by_cases hil : i < tabs.length
  ·obtain ⟨t, ht⟩ : ∃ t, tabs[i]? = some t := ⟨_, List.getElem?_eq_getElem hil⟩; obtain ⟨hsA, hhA⟩ : ∃ t, hAs[i]? = some t := ⟨_, List.getElem?_eq_getElem (by have := HLA.out.1; omega)⟩
   obtain ⟨hsG, hhG⟩ : ∃ t, hGs[i]? = some t := ⟨_, List.getElem?_eq_getElem (by have := HLA.out.2; omega)⟩
   have hcA := HHA.out i t hsA ht hhA; have hcG := HHG.out i t hsG ht hhG; have hcl := zal HC.out HBW.out; have c0 : wr.cell? ⟨bL, i * 2, none⟩ = some (hdr t.1) := (zac hcl _).trans (by rw [List.getElem?_toArray]; exact (tcells_get tabs i t ht).1)
   have c1 : wr.cell? ⟨bL, i * 2 + 1, none⟩ = some (hdr t.2) := (zac hcl _).trans (by rw [List.getElem?_toArray]; exact (tcells_get tabs i t ht).2)
   obtain ⟨⟨A1, n1, k1⟩, ⟨B1, m1, d1⟩⟩ := t; simp only [hdr] at c0 c1; simp only at hcA hcG; have hib : decide ((i : Int) < (tabs.length : Int)) = true := decide_eq_true (by omega)
   have hi0 : (0 : Int) ≤ (i : Int) := Int.natCast_nonneg _; have hi1 : (i : Int) < (tabs.length : Int) := by omega
   have hiw : IntKind.i64.wrap ((i : Int) + 1) = (i : Int) + 1 := IntWalk.i64_in _ (by omega)
   have hi2 : i + 1 ≤ tabs.length := hil; have hme : tabs.length - (i + 1) < tabs.length - i := by omega
   have fA := flatten_take_succ hhA; have fG := flatten_take_succ hhG; have hnl : hsA.length = n1 := hcA.1; have hml : hsG.length = m1 := hcG.1; have hboA : ((hAs.take i).flatten.length + n1) * 24 ≤ 140737488355328 := by
    have := flatten_take_le hAs (i + 1); rw [fA, List.length_append, hnl] at this; omega
   have hboG : ((hGs.take i).flatten.length + m1) * 24 ≤ 140737488355328 := by
    have := flatten_take_le hGs (i + 1); rw [fG, List.length_append, hml] at this; omega
   have HFA := Lib.hid fA; have HFG := Lib.hid fG; have HCA := Lib.hid (Kd.zaw hcA HBW.out); have HCG := Lib.hid hcG; have HC1 := Lib.hid c1; clear hcA hcG hcl fA fG hnl hml ht hhA hhG c1
   go_wp2_with ((with_reducible refine zax (b := .append) (xs := #[.tmp 28, .tmp 33]) rfl ?_); refine Hid.out ?_)
   refine Lib.hid ?_
   at_builtin
   refine Kd.zbh kH (w0 := W0) (W := wr) W0.heap.size rfl (.tmp 28) (.tmp 33) 22 90 (.slice none 0 0) 24 rfl Tryd.underlying22 Bld.info90 rfl (by decide) (by decide) _ (hAs.take i).flatten hsA A1 n1 k1 tru (fun _ => False) rfl rfl HVA.out HCA.out (fun _ _ h => h) (fun _ h => h.elim) (fun _ _ => trivial) HBW.out HBW.out.size hboA ?_
   intro v1 w1 ho1 hb1 hg1 hat1; rw [← HFA.out] at ho1; have HVA1 := Lib.hid ho1; have HBW1 := Lib.hid hb1; have HVG1 : Hid (kH.R 95 w1 W0.heap.size tru _ (hGs.take i).flatten) := Lib.hid (Kd.R_over HVG.out HVA.out (by decide) hg1)
   have c1 : w1.cell? ⟨bL, i * 2 + 1, none⟩ = some (.slice B1 m1 d1) := by
    have h1 := zac (zal HC.out hb1) (i * 2 + 1); have h2 := zac (zal HC.out HBW.out) (i * 2 + 1); rw [h1, ← h2]; exact HC1.out
   have HCG1 := Lib.hid (Kd.zaw HCG.out hb1); clear ho1 hb1 hg1 hat1 HVA HBW HCA c0
   go_wp2_with ((with_reducible refine zax (b := .append) (xs := #[.tmp 35, .tmp 40]) rfl ?_); refine Hid.out ?_)
   refine Lib.hid ?_
   at_builtin
   refine Kd.zbh kH (w0 := W0) (W := w1) W0.heap.size rfl (.tmp 35) (.tmp 40) 23 95 (.slice none 0 0) 24 rfl Tryd.underlying23 info95 rfl (by decide) (by decide) _ (hGs.take i).flatten hsG B1 m1 d1 tru (fun _ => False) rfl rfl HVG1.out HCG1.out (fun _ _ h => h) (fun _ h => h.elim) (fun _ _ => trivial) HBW1.out HBW1.out.size hboG ?_
   intro v2 w2 ho2 hb2 hg2 hat2; rw [← HFG.out] at ho2; have HVG2 := Lib.hid ho2; have HBW2 := Lib.hid hb2; have HVA2 : Hid (kH.R 90 w2 W0.heap.size tru v1 (hAs.take (i + 1)).flatten) := Lib.hid (Kd.R_over HVA1.out HVG1.out (by decide) hg2)
   clear ho2 hb2 hg2 hat2 HVA1 HVG1 HBW1 HCG1 HVG c1
   go_wp2_with fail
   go_roundw
   case rel => exact ⟨i + 1, by rw [Int.natCast_add]; rfl, hi2, HBW2, HVA2, HVG2⟩
   case measure => exact hme
  ·have hib : decide ((i : Int) < (tabs.length : Int)) = false := decide_eq_false (by omega)
   have eA : (hAs.take i).flatten = hAs.flatten := by rw [List.take_of_length_le (by have := HLA.out.1; omega)]
   have eG : (hGs.take i).flatten = hGs.flatten := by rw [List.take_of_length_le (by have := HLA.out.2; omega)]
   rw [eA] at HVA; rw [eG] at HVG; clear eA eG; generalize ehA : hAs.flatten = hA at *; generalize ehG : hGs.flatten = hG at *; have EHA := Lib.hid ehA; have EHG := Lib.hid ehG; clear ehA ehG; obtain ⟨Aa, ca, rfl, -, -⟩ := Kd.zbe HVA.out; obtain ⟨Ag, cg, rfl, -, -⟩ := Kd.zbe HVG.out; have HS : Hid (ApS base W0 wr hA hG (.slice Aa hA.length ca) (.slice Ag hG.length cg) xA0 xG0) := Lib.hid ⟨HRA.out.same (fun j h k hj hkk => by obtain ⟨xs, hx, ho⟩ := HRA.out.get hj; exact HBW.out.block k (zbp ho k hkk).2.1), HRG.out.same (fun j h k hj hkk => by obtain ⟨xs, hx, ho⟩ := HRG.out.get hj; exact HBW.out.block k (zbp ho k hkk).2.1), HVA.out, HVG.out, HBW.out.os, HBW.out.tape, HBW.out.output, HBW.out.size, fun k h1 _ _ => HBW.out.block k h1⟩
   clear HVA HVG HBW HC HLA HHA HHG hi
   go_wp2_with fail
   go_loopw [6] (fun v w' => ∃ (i : Nat) (xss : List (List Value)), v = .int .i64 (i : Int) ∧ i ≤ hA.length ∧ Hid (ApS base W0 w' hA hG (.slice Aa hA.length ca) (.slice Ag hG.length cg) xss xG0) ∧ Hid (∀ j xs, j < i → xss[j]? = some xs → ∀ q u, xs[q]? = some u → u = mkA1 j q)) (fun v _ => hA.length - (intOf v).toNat)
   case atStart => exact ⟨0, xA0, rfl, Nat.zero_le _, HS, fun j xs h => by omega⟩
   case round =>
    clear HS; obtain ⟨i, xss, rfl, hi, HS, HM⟩ := hrel; by_cases hil : i < hA.length
    ·have hib : decide ((i : Int) < (hA.length : Int)) = true := decide_eq_true (by omega)
     have hih : hA[i]? = some hA[i] := List.getElem?_eq_getElem hil; have HHN := HNA.out hA[i] (List.getElem_mem hil); generalize hA[i] = h at *; obtain ⟨ao, n, cap⟩ := h; have HIH := Lib.hid hih; have hi0 : (0 : Int) ≤ (i : Int) := Int.natCast_nonneg _; have hi1 : (i : Int) < (hA.length : Int) := by omega
     have hiw : IntKind.i64.wrap ((i : Int) + 1) = (i : Int) + 1 := IntWalk.i64_in _ (by omega)
     have hin : n ≤ 4194304 := HHN; clear hih HHN
     go_wp2_with fail
     go_loopw [7] (fun v w' => ∃ (k : Nat) (xss : List (List Value)), v = .int .i64 (k : Int) ∧ k ≤ n ∧ Hid (ApS base W0 w' hA hG (.slice Aa hA.length ca) (.slice Ag hG.length cg) xss xG0) ∧ Hid (∀ j xs, j < i → xss[j]? = some xs → ∀ q u, xs[q]? = some u → u = mkA1 j q) ∧ Hid (∀ xs, xss[i]? = some xs → ∀ q u, q < k * 2 → xs[q]? = some u → u = mkA1 i q)) (fun v _ => n - (intOf v).toNat)
     case atStart => exact ⟨0, xss, rfl, Nat.zero_le _, HS, HM, fun xs _ q u h => by omega⟩
     case round =>
      clear HS HM; obtain ⟨k, xss, rfl, hk, HS, HM, HK⟩ := hrel; obtain ⟨adh, ch, eh, _, hce⟩ := head_at HS.out.aA HIH.out; injection eh with eh ehn ehc; clear ehn; subst eh ehc; replace hce : wr.cell? (adh.add i) = some (.slice ao n cap) := hce; by_cases hkn : k < n
      ·have hkb : decide ((k : Int) < (n : Int)) = true := decide_eq_true (by omega)
       obtain ⟨xs, hxs, hown⟩ := HS.out.rA.get HIH.out; obtain ⟨g, eg, hbg, cur, hkc⟩ := own_form hown (by show 0 < n; omega)
       have eg : ao = some ⟨g, 0, none⟩ := eg; subst eg; have hk0 : (0 : Int) ≤ (k : Int) := Int.natCast_nonneg _; have hk1 : (k : Int) < (n : Int) := by omega
       have hkw : IntKind.i64.wrap ((k : Int) + 1) = (k : Int) + 1 := IntWalk.i64_in _ (by omega)
       have hiw2 : IntKind.i64.wrap (100000 + (i : Int)) = 100000 + (i : Int) := IntWalk.i64_in _ (by omega)
       have hxl : xs.length = n * 2 := hown.1; have f0 : wr.frozen? ⟨g, k * 2, none⟩ = false := zak hkc _; have f1 : wr.frozen? ⟨g, k * 2 + 1, none⟩ = false := zak hkc _; obtain ⟨v0, c0⟩ : ∃ u, wr.cell? ⟨g, k * 2, none⟩ = some u := ⟨xs[k * 2], (hown.cellAt (k * 2) (show k * 2 < n * 2 by omega)).trans (List.getElem?_eq_getElem (by omega))⟩
       obtain ⟨v1, c1⟩ : ∃ u, wr.cell? ⟨g, k * 2 + 1, none⟩ = some u := ⟨xs[k * 2 + 1], (hown.cellAt (k * 2 + 1) (show k * 2 + 1 < n * 2 by omega)).trans (List.getElem?_eq_getElem (by omega))⟩
       have HS1 := Lib.hid ((HS.out.setA HAA.out HIH.out (by omega) hxs (p := k * 2) (.int .i64 9)).setA HAA.out HIH.out (by omega) (List.getElem?_set_self (List.getElem?_eq_some_iff.1 hxs).1) (p := k * 2 + 1) (.int .i64 (i : Int)))
       have HXS := Lib.hid hxs; clear hxs hown hkc
       go_wp2_with fail
       go_roundw
       case rel =>
        refine ⟨k + 1, _, by rw [Int.natCast_add]; rfl, hkn, HS1, fun j ys hj hy q u hu => ?_, fun ys hy q u hq hu => ?_⟩
        ·rw [List.getElem?_set_ne (by omega), List.getElem?_set_ne (by omega)] at hy
         exact HM.out j ys hj hy q u hu
        ·rw [List.getElem?_set_self (by rw [List.length_set]; exact (List.getElem?_eq_some_iff.1 HXS.out).1)] at hy
         cases hy; exact marksA_step hxl hkn (HK.out xs HXS.out) q u hq hu
       case measure => simp only [intOf]; omega
      ·have hkb : decide ((k : Int) < (n : Int)) = false := decide_eq_false (by omega)
       go_wp2_with fail
       go_roundw
       case rel => exact ⟨i + 1, xss, by rw [Int.natCast_add]; rfl, by omega, HS, fun j xs hj hx q u hu => by
        rcases Nat.lt_or_ge j i with c | c
        ·exact HM.out j xs c hx q u hu
        ·obtain rfl : j = i := by omega
         obtain ⟨ys, hy, ho⟩ := HS.out.rA.get HIH.out; rw [hx] at hy; cases hy; have h9 := (List.getElem?_eq_some_iff.1 hu).1; have h10 : xs.length = n * 2 := ho.1; exact HK.out xs hx q u (by have hkn : k = n := (by omega); subst hkn; omega) hu⟩
       case measure => simp only [intOf]; omega
    ·have hib : decide ((i : Int) < (hA.length : Int)) = false := decide_eq_false (by omega)
     obtain rfl : i = hA.length := by omega
     have HMA := Lib.hid HM.out; clear HM hi hib
     go_wp2_with fail
     generalize xss = xA at *
     go_loopw [8] (fun v w' => ∃ (i : Nat) (xss : List (List Value)), v = .int .i64 (i : Int) ∧ i ≤ hG.length ∧ Hid (ApS base W0 w' hA hG (.slice Aa hA.length ca) (.slice Ag hG.length cg) xA xss) ∧ Hid (∀ j xs, j < i → xss[j]? = some xs → ∀ q u, xs[q]? = some u → u = mkG1 j q)) (fun v _ => hG.length - (intOf v).toNat)
     case atStart => exact ⟨0, xG0, rfl, Nat.zero_le _, HS, fun j xs h => by omega⟩
     case round =>
      clear HS; obtain ⟨i, xss, rfl, hi, HS, HM⟩ := hrel; by_cases hil : i < hG.length
      ·have hib : decide ((i : Int) < (hG.length : Int)) = true := decide_eq_true (by omega)
       have hih : hG[i]? = some hG[i] := List.getElem?_eq_getElem hil; have HHN := HNG.out hG[i] (List.getElem_mem hil); generalize hG[i] = h at *; obtain ⟨ao, n, cap⟩ := h; have HIH := Lib.hid hih; have hi0 : (0 : Int) ≤ (i : Int) := Int.natCast_nonneg _; have hi1 : (i : Int) < (hG.length : Int) := by omega
       have hiw : IntKind.i64.wrap ((i : Int) + 1) = (i : Int) + 1 := IntWalk.i64_in _ (by omega)
       have hin : n ≤ 4194304 := HHN; clear hih HHN
       go_wp2_with fail
       go_loopw [9] (fun v w' => ∃ (k : Nat) (xss : List (List Value)), v = .int .i64 (k : Int) ∧ k ≤ n ∧ Hid (ApS base W0 w' hA hG (.slice Aa hA.length ca) (.slice Ag hG.length cg) xA xss) ∧ Hid (∀ j xs, j < i → xss[j]? = some xs → ∀ q u, xs[q]? = some u → u = mkG1 j q) ∧ Hid (∀ xs, xss[i]? = some xs → ∀ q u, q < k * 1 → xs[q]? = some u → u = mkG1 i q)) (fun v _ => n - (intOf v).toNat)
       case atStart => exact ⟨0, xss, rfl, Nat.zero_le _, HS, HM, fun xs _ q u h => by omega⟩
       case round =>
        clear HS HM; obtain ⟨k, xss, rfl, hk, HS, HM, HK⟩ := hrel; obtain ⟨adh, ch, eh, _, hce⟩ := head_at HS.out.aG HIH.out; injection eh with eh ehn ehc; clear ehn; subst eh ehc; replace hce : wr.cell? (adh.add i) = some (.slice ao n cap) := hce; by_cases hkn : k < n
        ·have hkb : decide ((k : Int) < (n : Int)) = true := decide_eq_true (by omega)
         obtain ⟨xs, hxs, hown⟩ := HS.out.rG.get HIH.out; obtain ⟨g, eg, hbg, cur, hkc⟩ := own_form hown (by show 0 < n; omega)
         have eg : ao = some ⟨g, 0, none⟩ := eg; subst eg; have hk0 : (0 : Int) ≤ (k : Int) := Int.natCast_nonneg _; have hk1 : (k : Int) < (n : Int) := by omega
         have hkw : IntKind.i64.wrap ((k : Int) + 1) = (k : Int) + 1 := IntWalk.i64_in _ (by omega)
         have hiw2 : IntKind.i64.wrap (100000 + (i : Int)) = 100000 + (i : Int) := IntWalk.i64_in _ (by omega)
         have hxl : xs.length = n * 1 := hown.1; have f0 : wr.frozen? ⟨g, k, none⟩ = false := zak hkc _; obtain ⟨v0, c0⟩ : ∃ u, wr.cell? ⟨g, k, none⟩ = some u := ⟨xs[k], (hown.cellAt k (show k < n * 1 by omega)).trans (List.getElem?_eq_getElem (by omega))⟩
         have HS1 := HS.out.setG HAG.out HIH.out (by omega) hxs (p := k) (.int .i64 (100000 + (i : Int)))
         have HS1 := Lib.hid HS1; have HXS := Lib.hid hxs; clear hxs hown hkc
         go_wp2_with fail
         go_roundw
         case rel =>
          refine ⟨k + 1, _, by rw [Int.natCast_add]; rfl, hkn, HS1, fun j ys hj hy q u hu => ?_, fun ys hy q u hq hu => ?_⟩
          ·rw [List.getElem?_set_ne (by omega)] at hy
           exact HM.out j ys hj hy q u hu
          ·rw [List.getElem?_set_self (List.getElem?_eq_some_iff.1 HXS.out).1] at hy; cases hy; exact marksG_step hxl hkn (HK.out xs HXS.out) q u hq (by simpa using hu)
         case measure => simp only [intOf]; omega
        ·have hkb : decide ((k : Int) < (n : Int)) = false := decide_eq_false (by omega)
         go_wp2_with fail
         go_roundw
         case rel => exact ⟨i + 1, xss, by rw [Int.natCast_add]; rfl, by omega, HS, fun j xs hj hx q u hu => by
          rcases Nat.lt_or_ge j i with c | c
          ·exact HM.out j xs c hx q u hu
          ·obtain rfl : j = i := by omega
           obtain ⟨ys, hy, ho⟩ := HS.out.rG.get HIH.out; rw [hx] at hy; cases hy; have h9 := (List.getElem?_eq_some_iff.1 hu).1; have h10 : xs.length = n * 1 := ho.1; exact HK.out xs hx q u (by have hkn : k = n := (by omega); subst hkn; omega) hu⟩
         case measure => simp only [intOf]; omega
      ·have hib : decide ((i : Int) < (hG.length : Int)) = false := decide_eq_false (by omega)
       obtain rfl : i = hG.length := by omega
       have HMG := Lib.hid HM.out; clear HM hi hib
       go_wp2_with fail
       generalize xss = xG at *; have hB0 : ∃ B, W0.heap.size ≤ B ∧ B ≤ wr.heap.size ∧ Hid (∀ k, (Value.slice Aa hA.length ca).ownBlock = some k → k < B) ∧ Hid (∀ k, (Value.slice Ag hG.length cg).ownBlock = some k → k < B) := ⟨wr.heap.size, HS.out.size, Nat.le_refl _, R_lt HS.out.aA, R_lt HS.out.aG⟩; obtain ⟨B1, hWB1, hB1w, HAB1, HGB1⟩ := hB0
       go_loopw [10, 11] (fun v c w' => ∃ (i : Nat) (ls : List HD), c = .int .i64 (i : Int) ∧ i ≤ hA.length ∧ ls.length = i ∧ B1 ≤ w'.heap.size ∧ Hid (ApS base W0 w' hA hG (.slice Aa hA.length ca) (.slice Ag hG.length cg) xA xG) ∧ Hid (kH.R 90 w' B1 tru v ls) ∧ Hid (LS 93 2 base W0.heap.size mkA1 mkA2 hA w' ls)) (fun _ c _ => hA.length - (intOf c).toNat)
       case atStart => exact ⟨0, [], rfl, Nat.zero_le _, rfl, hB1w, HS, Kd.R_nil _ _ _ _ _, fun j x h => by simp at h⟩
       case round =>
        clear HS hB1w; obtain ⟨i, ls, rfl, hi2, hll, hsB, HS, HO, HLS⟩ := hrel; by_cases hil2 : i < hA.length
        ·have hib2 : decide ((i : Int) < (hA.length : Int)) = true := decide_eq_true (by omega)
         have hih : hA[i]? = some hA[i] := List.getElem?_eq_getElem hil2; have HHN := HNA.out hA[i] (List.getElem_mem hil2); generalize hA[i] = h at *; obtain ⟨ao, n, cap⟩ := h; have HIH := Lib.hid hih; have hi0 : (0 : Int) ≤ (i : Int) := Int.natCast_nonneg _; have hi1 : (i : Int) < (hA.length : Int) := by omega
         have hiw : IntKind.i64.wrap ((i : Int) + 1) = (i : Int) + 1 := IntWalk.i64_in _ (by omega)
         have hiw2 : True := trivial; have hin : n ≤ 4194304 := HHN; obtain ⟨adh, ch, eh, _, hce⟩ := head_at HS.out.aA HIH.out; injection eh with eh ehn ehc; clear ehn; subst eh ehc; replace hce : wr.cell? (adh.add i) = some (.slice ao n cap) := hce; obtain ⟨xs, hxs, hown⟩ := HS.out.rA.get HIH.out; have hown : wr.ownsRow base 93 2 (.slice ao n cap) n xs := hown; have HXS := Lib.hid hxs; have HOW := Lib.hid hown; have HCM := Lib.hid (came_of hown); have hszW : W0.heap.size ≤ wr.heap.size := HS.out.size; clear hih HHN hxs hown
         go_wp2_with fail
         obtain ⟨Wi, hWi⟩ : ∃ Wi, Wi = wr := ⟨_, rfl⟩; subst hWi
         go_loopw [12, 13] (fun x c w' => ∃ (k : Nat) (ks : List Value), c = .int .i64 (k : Int) ∧ k ≤ 70 ∧ Hid (Onto Wi 93 2 ao ((ao.map (·.block)).getD 0) 0 n cap xs w' x k ks) ∧ Hid (∀ q u, ks[q]? = some u → u = mkA2 i q) ∧ Hid (w'.tape = Wi.tape) ∧ Hid (w'.ownsRow base 93 2 x (n + k) (xs ++ ks)) ∧ ks.length = k * 2) (fun _ c _ => 70 - (intOf c).toNat)
         case atStart => exact ⟨0, [], rfl, Nat.zero_le _, Onto.start HCM.out, fun q u h => by simp at h, rfl, Lib.hid (by rw [List.append_nil]; exact HOW.out), rfl⟩
         case round =>
          obtain ⟨k, ks, rfl, hk, HON, HMK, HTP, HOX, hkl⟩ := hrel; by_cases hkn : k < 70
          ·have hkb : decide ((k : Int) < 70) = true := decide_eq_true (by omega)
           have hkw : IntKind.i64.wrap ((k : Int) + 1) = (k : Int) + 1 := IntWalk.i64_in _ (by omega)
           have hbase : base ≤ wr.heap.size := by have := HON.out.kept.size; omega
           have HONa := Lib.hid (HON.out.alloc HCM.out (.cells #[.int .i64 8, .int .i64 (i : Int)] 93)); have HOXa := Lib.hid (HOX.out.alloc (.cells #[.int .i64 8, .int .i64 (i : Int)] 93)); have HLa := Lib.hid (zav wr (.cells #[.int .i64 8, .int .i64 (i : Int)] 93)); have hba : base ≤ (wr.alloc (.cells #[.int .i64 8, .int .i64 (i : Int)] 93)).heap.size := by rw [World.size_alloc]; omega
           go_wp2_with ((with_reducible refine zax (b := .append) (xs := #[.tmp 102, .tmp 105]) rfl ?_); refine Hid.out ?_)
           refine Lib.hid ?_
           at_builtin
           refine append_both (P := Tryd.prog) _ rfl (.tmp 102) (.tmp 105) 90 rfl HCM.out (.agg #[.int .i64 0, .int .i64 0]) 16 Tryd.underlying90 info93a rfl (by decide) rfl HONa.out HOXa.out hba ⟨wr.heap.size, 0, none⟩ 1 [.int .i64 8, .int .i64 (i : Int)] rfl rfl (news2 HLa.out) (by simp [Value.oneCell']) (by simp only [maxLen]; omega) (by omega) ?_
           intro v1 w1 hon1 hox1 htp1; have HON1 := Lib.hid hon1; have HOX1 := Lib.hid hox1; have HTP1 : Hid (w1.tape = Wi.tape) := htp1.trans HTP.out; clear hon1 hox1 htp1
           go_wp2_with fail
           go_roundw
           case rel => exact ⟨k + 1, _, by rw [Int.natCast_add]; rfl, hkn, HON1, fun q u hu => marksA2_step hkl HMK.out q u hu, HTP1, Lib.hid (by rw [← List.append_assoc]; exact HOX1.out), by simp [hkl] <;> omega⟩
           case measure => simp only [intOf]; omega
          ·have hkb : decide ((k : Int) < 70) = false := decide_eq_false (by omega)
           obtain rfl : k = 70 := by omega
           have hgr := grown_row HOW.out HON.out (by decide) hkl (by omega) HTP.out
           obtain ⟨g, cp, ev, hbg, hgl⟩ := HOX.out.form (by omega)
           subst ev; have hxl : xs.length = n * 2 := HOW.out.1; have HS2 := Lib.hid (HS.out.growA HAA.out HIH.out HXS.out hgr.1 hgr.2); have HO2 := Lib.hid (R_other hgr.1 HOW.out HO.out (by decide))
           have HLS2 := Lib.hid (HLS.out.grow HAA.out HIH.out (by omega) hgr.1 (fun k hk => HHA'.out _ _ k HIH.out hk))
           have hnope : True := trivial; have HXL : Hid (wr.ownsRow base 93 2 (hdr (some ⟨g, 0, none⟩, n + 70, cp)) (n + 70) (xs ++ ks)) := HOX; have HAL := Lib.hid (val_block (base := base) HON.out); have hsB2 : B1 ≤ wr.heap.size := Nat.le_trans hsB hgr.1.2.2.2.1; clear hgr HON HOX HOW HCM HTP HS HO HLS; have hbo : (ls.length + 1) * 24 ≤ 140737488355328 := by omega
           go_wp2_with ((with_reducible refine zax (b := .append) (xs := #[.tmp 107, .tmp 109]) rfl ?_); refine Hid.out ?_)
           refine Lib.hid ?_
           at_builtin
           refine Kd.R_append kH (w0 := wr) (W := wr) B1 rfl (.tmp 107) (.tmp 109) 22 90 (.slice none 0 0) 24 rfl Tryd.underlying22 Bld.info90 rfl (by decide) (by decide) _ ls (some ⟨g, 0, none⟩, n + 70, cp) [.slice (some ⟨g, 0, none⟩) (n + 70) cp] tru (fun _ => False) rfl rfl rfl (fun _ h => h.elim) (fun _ _ => trivial) HO2.out (Below.refl _ _) hsB2 hbo ?_
           intro v1 w3 ho3 hb3 hg3 hat3; have HO3 := Lib.hid ho3; have HS3 := Lib.hid (HS2.out.grownH hWB1 HO2.out ⟨by decide, by decide⟩ (apart_blocks HAB1.out HO2.out) (apart_blocks HGB1.out HO2.out) hg3)
           have HLS3 := Lib.hid (LS.snoc (xs := xs) (ks := ks) (HLS2.out.grownH HO2.out (by decide) hg3) HIH.out hll rfl (by
            rcases HAL.out with h1 | ⟨b, h1, h2⟩
            ·exact .inl h1
            ·exact .inr ⟨b, h1, Nat.le_trans hszW h2⟩) (own_grownH HO2.out hg3 HXL.out (by decide)) hxl (HMA.out i xs hil2 HXS.out) HMK.out)
           have hnope3 : True := trivial; have hsB3 : B1 ≤ w3.heap.size := Nat.le_trans hsB2 hg3.size; clear ho3 hb3 hg3 hat3 HO2 HS2 HLS2 HXL HAL; have hme : hA.length - ((i : Int) + 1).toNat < hA.length - ((i : Int)).toNat := by omega
           go_wp2_with fail
           go_roundw
           case rel => exact ⟨i + 1, ls ++ [(some ⟨g, 0, none⟩, n + 70, cp)], by first | rfl | (rw [Int.natCast_add]; rfl), hil2, by rw [List.length_append, hll]; rfl, hsB3, HS3, HO3, HLS3⟩
           case measure => exact hme
        ·have hib2 : decide ((i : Int) < (hA.length : Int)) = false := decide_eq_false (by omega)
         have hlA : ls.length = hA.length := by omega
         obtain ⟨Ax, cx, rfl, -, -⟩ := Kd.zbe HO.out; generalize hlL : ls.length = nL at *; subst hlA; have HOL : Hid (kH.R 90 wr B1 tru (.slice Ax hA.length cx) ls) := HO; have HLA := HLS; generalize ls = lsA at *; have hlA := hlL; clear HO HLS hll hlL
         go_wp2_with fail
         have hB0 : ∃ B, W0.heap.size ≤ B ∧ B ≤ wr.heap.size ∧ Hid (∀ k, (Value.slice Aa hA.length ca).ownBlock = some k → k < B) ∧ Hid (∀ k, (Value.slice Ag hG.length cg).ownBlock = some k → k < B) := ⟨wr.heap.size, HS.out.size, Nat.le_refl _, R_lt HS.out.aA, R_lt HS.out.aG⟩; obtain ⟨B2, hWB2, hB2w, HAB2, HGB2⟩ := hB0
         go_loopw [14, 15] (fun v c w' => ∃ (i : Nat) (ls : List HD), c = .int .i64 (i : Int) ∧ i ≤ hG.length ∧ ls.length = i ∧ B2 ≤ w'.heap.size ∧ Hid (ApS base W0 w' hA hG (.slice Aa hA.length ca) (.slice Ag hG.length cg) xA xG) ∧ Hid (kH.R 95 w' B2 tru v ls) ∧ Hid (LS 3 1 base W0.heap.size mkG1 mkG2 hG w' ls) ∧ Hid (kH.R 90 w' B1 tru (.slice Ax hA.length cx) lsA) ∧ Hid (LS 93 2 base W0.heap.size mkA1 mkA2 hA w' lsA)) (fun _ c _ => hG.length - (intOf c).toNat)
         case atStart => exact ⟨0, [], rfl, Nat.zero_le _, rfl, hB2w, HS, Kd.R_nil _ _ _ _ _, fun j x h => by simp at h, HOL, HLA⟩
         case round =>
          clear HS HOL HLA hB2w; obtain ⟨i, ls, rfl, hi2, hll, hsB, HS, HO, HLS, HOL, HLA⟩ := hrel; by_cases hil2 : i < hG.length
          ·have hib2 : decide ((i : Int) < (hG.length : Int)) = true := decide_eq_true (by omega)
           have hih : hG[i]? = some hG[i] := List.getElem?_eq_getElem hil2; have HHN := HNG.out hG[i] (List.getElem_mem hil2); generalize hG[i] = h at *; obtain ⟨ao, n, cap⟩ := h; have HIH := Lib.hid hih; have hi0 : (0 : Int) ≤ (i : Int) := Int.natCast_nonneg _; have hi1 : (i : Int) < (hG.length : Int) := by omega
           have hiw : IntKind.i64.wrap ((i : Int) + 1) = (i : Int) + 1 := IntWalk.i64_in _ (by omega)
           have hiw2 : IntKind.i64.wrap (-9 - (i : Int)) = -9 - (i : Int) := IntWalk.i64_in _ (by omega)
           have hin : n ≤ 4194304 := HHN; obtain ⟨adh, ch, eh, _, hce⟩ := head_at HS.out.aG HIH.out; injection eh with eh ehn ehc; clear ehn; subst eh ehc; replace hce : wr.cell? (adh.add i) = some (.slice ao n cap) := hce; obtain ⟨xs, hxs, hown⟩ := HS.out.rG.get HIH.out; have hown : wr.ownsRow base 3 1 (.slice ao n cap) n xs := hown; have HXS := Lib.hid hxs; have HOW := Lib.hid hown; have HCM := Lib.hid (came_of hown); have hszW : W0.heap.size ≤ wr.heap.size := HS.out.size; clear hih HHN hxs hown
           go_wp2_with fail
           obtain ⟨Wi, hWi⟩ : ∃ Wi, Wi = wr := ⟨_, rfl⟩; subst hWi
           go_loopw [16, 17] (fun x c w' => ∃ (k : Nat) (ks : List Value), c = .int .i64 (k : Int) ∧ k ≤ 70 ∧ Hid (Onto Wi 3 1 ao ((ao.map (·.block)).getD 0) 0 n cap xs w' x k ks) ∧ Hid (∀ q u, ks[q]? = some u → u = mkG2 i q) ∧ Hid (w'.tape = Wi.tape) ∧ Hid (w'.ownsRow base 3 1 x (n + k) (xs ++ ks)) ∧ ks.length = k * 1) (fun _ c _ => 70 - (intOf c).toNat)
           case atStart => exact ⟨0, [], rfl, Nat.zero_le _, Onto.start HCM.out, fun q u h => by simp at h, rfl, Lib.hid (by rw [List.append_nil]; exact HOW.out), rfl⟩
           case round =>
            obtain ⟨k, ks, rfl, hk, HON, HMK, HTP, HOX, hkl⟩ := hrel; by_cases hkn : k < 70
            ·have hkb : decide ((k : Int) < 70) = true := decide_eq_true (by omega)
             have hkw : IntKind.i64.wrap ((k : Int) + 1) = (k : Int) + 1 := IntWalk.i64_in _ (by omega)
             have hbase : base ≤ wr.heap.size := by have := HON.out.kept.size; omega
             have HONa := Lib.hid (HON.out.alloc HCM.out (.cells #[.int .i64 (-9 - (i : Int))] 3)); have HOXa := Lib.hid (HOX.out.alloc (.cells #[.int .i64 (-9 - (i : Int))] 3)); have HLa := Lib.hid (zav wr (.cells #[.int .i64 (-9 - (i : Int))] 3)); have hba : base ≤ (wr.alloc (.cells #[.int .i64 (-9 - (i : Int))] 3)).heap.size := by rw [World.size_alloc]; omega
             go_wp2_with ((with_reducible refine zax (b := .append) (xs := #[.tmp 125, .tmp 128]) rfl ?_); refine Hid.out ?_)
             refine Lib.hid ?_
             at_builtin
             refine append_both (P := Tryd.prog) _ rfl (.tmp 125) (.tmp 128) 95 rfl HCM.out (.int .i64 0) 8 Tryd.underlying95 info3a rfl (by decide) rfl HONa.out HOXa.out hba ⟨wr.heap.size, 0, none⟩ 1 [.int .i64 (-9 - (i : Int))] rfl rfl (news1 HLa.out) (by simp [Value.oneCell']) (by simp only [maxLen]; omega) (by omega) ?_
             intro v1 w1 hon1 hox1 htp1; have HON1 := Lib.hid hon1; have HOX1 := Lib.hid hox1; have HTP1 : Hid (w1.tape = Wi.tape) := htp1.trans HTP.out; clear hon1 hox1 htp1
             go_wp2_with fail
             go_roundw
             case rel => exact ⟨k + 1, _, by rw [Int.natCast_add]; rfl, hkn, HON1, fun q u hu => marksG2_step hkl HMK.out q u hu, HTP1, Lib.hid (by rw [← List.append_assoc]; exact HOX1.out), by simp [hkl] <;> omega⟩
             case measure => simp only [intOf]; omega
            ·have hkb : decide ((k : Int) < 70) = false := decide_eq_false (by omega)
             obtain rfl : k = 70 := by omega
             have hgr := grown_row HOW.out HON.out (by decide) hkl (by omega) HTP.out
             obtain ⟨g, cp, ev, hbg, hgl⟩ := HOX.out.form (by omega)
             subst ev; have hxl : xs.length = n * 1 := HOW.out.1; have HS2 := Lib.hid (HS.out.growG HAG.out HIH.out HXS.out hgr.1 hgr.2); have HO2 := Lib.hid (R_other hgr.1 HOW.out HO.out (by decide))
             have HLS2 := Lib.hid (HLS.out.grow HAG.out HIH.out (by omega) hgr.1 (fun k hk => HHG'.out _ _ k HIH.out hk))
             have HOL2 := Lib.hid (R_other hgr.1 HOW.out HOL.out (by decide))
             have HLA2 := Lib.hid (LS_other hgr.1 HOW.out HLA.out (by decide))
             have HXL : Hid (wr.ownsRow base 3 1 (hdr (some ⟨g, 0, none⟩, n + 70, cp)) (n + 70) (xs ++ ks)) := HOX; have HAL := Lib.hid (val_block (base := base) HON.out); have hsB2 : B2 ≤ wr.heap.size := Nat.le_trans hsB hgr.1.2.2.2.1; clear hgr HON HOX HOW HCM HTP HS HO HLS HOL HLA; have hbo : (ls.length + 1) * 24 ≤ 140737488355328 := by omega
             go_wp2_with ((with_reducible refine zax (b := .append) (xs := #[.tmp 130, .tmp 132]) rfl ?_); refine Hid.out ?_)
             refine Lib.hid ?_
             at_builtin
             refine Kd.R_append kH (w0 := wr) (W := wr) B2 rfl (.tmp 130) (.tmp 132) 23 95 (.slice none 0 0) 24 rfl Tryd.underlying23 info95 rfl (by decide) (by decide) _ ls (some ⟨g, 0, none⟩, n + 70, cp) [.slice (some ⟨g, 0, none⟩) (n + 70) cp] tru (fun _ => False) rfl rfl rfl (fun _ h => h.elim) (fun _ _ => trivial) HO2.out (Below.refl _ _) hsB2 hbo ?_
             intro v1 w3 ho3 hb3 hg3 hat3; have HO3 := Lib.hid ho3; have HS3 := Lib.hid (HS2.out.grownH hWB2 HO2.out ⟨by decide, by decide⟩ (apart_blocks HAB2.out HO2.out) (apart_blocks HGB2.out HO2.out) hg3)
             have HLS3 := Lib.hid (LS.snoc (xs := xs) (ks := ks) (HLS2.out.grownH HO2.out (by decide) hg3) HIH.out hll rfl (by
              rcases HAL.out with h1 | ⟨b, h1, h2⟩
              ·exact .inl h1
              ·exact .inr ⟨b, h1, Nat.le_trans hszW h2⟩) (own_grownH HO2.out hg3 HXL.out (by decide)) hxl (HMG.out i xs hil2 HXS.out) HMK.out)
             have HOL3 := Lib.hid (R_grownH HO2.out hg3 HOL2.out (by decide))
             have HLA3 := Lib.hid (HLA2.out.grownH HO2.out (by decide) hg3)
             have hsB3 : B2 ≤ w3.heap.size := Nat.le_trans hsB2 hg3.size; clear ho3 hb3 hg3 hat3 HO2 HS2 HLS2 HXL HAL HOL2 HLA2; have hme : hG.length - ((i : Int) + 1).toNat < hG.length - ((i : Int)).toNat := by omega
             go_wp2_with fail
             go_roundw
             case rel => exact ⟨i + 1, ls ++ [(some ⟨g, 0, none⟩, n + 70, cp)], by first | rfl | (rw [Int.natCast_add]; rfl), hil2, by rw [List.length_append, hll]; rfl, hsB3, HS3, HO3, HLS3, HOL3, HLA3⟩
             case measure => exact hme
          ·have hib2 : decide ((i : Int) < (hG.length : Int)) = false := decide_eq_false (by omega)
           have hlG : ls.length = hG.length := by omega
           obtain ⟨Af, cf, rfl, -, -⟩ := Kd.zbe HO.out; generalize hlF : ls.length = nF at *; subst hlG; generalize ls = lsG at *; have HF : Hid (Fin base W0 wr hA hG (.slice Aa hA.length ca) (.slice Ag hG.length cg) xA xG B1 B2 (.slice Ax hA.length cx) (.slice Af hG.length cf) lsA lsG) := Lib.hid ⟨HS.out, HOL.out, HO.out, HLA.out, HLS.out⟩; have hlG := hlF; clear HS HOL HO HLA HLS hll hlF
           go_wp2_with fail
           go_loopw [18] (fun c w' => ∃ i : Nat, c = .int .i64 (i : Int) ∧ i ≤ hA.length ∧ Hid (Fin base W0 w' hA hG (.slice Aa hA.length ca) (.slice Ag hG.length cg) xA xG B1 B2 (.slice Ax hA.length cx) (.slice Af hG.length cf) lsA lsG)) (fun c _ => hA.length - (intOf c).toNat)
           case atStart => exact ⟨0, rfl, Nat.zero_le _, HF⟩
           case round =>
            clear HF; obtain ⟨i, rfl, hi3, HF⟩ := hrel; by_cases hil3 : i < hA.length
            ·have hib3 : decide ((i : Int) < (hA.length : Int)) = true := decide_eq_true (by omega)
             have hi0 : (0 : Int) ≤ (i : Int) := Int.natCast_nonneg _; have hi1 : (i : Int) < (hA.length : Int) := by omega
             have hiw : IntKind.i64.wrap ((i : Int) + 1) = (i : Int) + 1 := IntWalk.i64_in _ (by omega)
             have hiw2 : True := trivial; have hxi : lsA[i]? = some (lsA[i]'(by omega)) := List.getElem?_eq_getElem (by omega)
             generalize lsA[i]'(by omega) = x at hxi
             obtain ⟨h, hih, hx70, _, ys, hoy, hm1, hm2⟩ := HF.out.lA i x hxi; obtain ⟨gx, ex, _, _⟩ := own_form hoy (by omega)
             obtain ⟨xa, xn, xc⟩ := x; obtain ⟨ao, n, cap⟩ := h; have ex : xa = some ⟨gx, 0, none⟩ := ex; have hx70 : xn = n + 70 := hx70; subst ex hx70; have hin : n ≤ 4194304 := HNA.out _ (List.mem_of_getElem? hih); obtain ⟨ad1, c1, e1, _, _⟩ := head_at HF.out.S.aA hih; injection e1 with e1 e1n e1c; clear e1n; subst e1 e1c; obtain ⟨ad2, c2, e2, _, _⟩ := head_at HF.out.L hxi; injection e2 with e2 e2n e2c; clear e2n; subst e2 e2c; have HIH := Lib.hid hih; have HXI := Lib.hid hxi; clear hih hxi hm1 hm2 hoy
             go_wp2_with fail
             go_loopw [19] (fun c w' => ∃ k : Nat, c = .int .i64 (k : Int) ∧ k ≤ n + 70 ∧ Hid (Fin base W0 w' hA hG (.slice (some ad1) hA.length ca) (.slice Ag hG.length cg) xA xG B1 B2 (.slice (some ad2) hA.length cx) (.slice Af hG.length cf) lsA lsG)) (fun c _ => n + 70 - (intOf c).toNat)
             case atStart => exact ⟨0, rfl, Nat.zero_le _, HF⟩
             case round =>
              clear HF; obtain ⟨k, rfl, hk, HF⟩ := hrel; obtain ⟨ad3, c3, e3, _, hcL⟩ := head_at HF.out.S.aA HIH.out; injection e3 with e3 e3n e3c; clear e3n; injection e3 with e3; subst e3 e3c; replace hcL : wr.cell? (ad1.add i) = some (.slice ao n cap) := hcL; obtain ⟨ad4, c4, e4, _, hcG⟩ := head_at HF.out.L HXI.out; injection e4 with e4 e4n e4c; clear e4n; injection e4 with e4; subst e4 e4c; replace hcG : wr.cell? (ad2.add i) = some (.slice (some ⟨gx, 0, none⟩) (n + 70) xc) := hcG; by_cases hkn : k < n + 70
              ·have hkb : decide ((k : Int) < (n : Int) + 70) = true := decide_eq_true (by omega)
               have hk0 : (0 : Int) ≤ (k : Int) := Int.natCast_nonneg _; have hk1 : (k : Int) < (n : Int) + 70 := by omega
               have hkw : IntKind.i64.wrap ((k : Int) + 1) = (k : Int) + 1 := IntWalk.i64_in _ (by omega)
               obtain ⟨h', hih', _, _, ys, hoy, hm1, hm2⟩ := HF.out.lA i _ HXI.out; rw [HIH.out] at hih'; cases hih'; have hoy2 : wr.ownsRow base 93 2 (.slice (some ⟨gx, 0, none⟩) (n + 70) xc) (n + 70) ys := hoy; by_cases hkm : k < n
               ·have hkc : decide ((k : Int) < (n : Int)) = true := decide_eq_true (by omega)
                have hkd : decide ((n : Int) ≤ (k : Int)) = false := decide_eq_false (by omega)
                have hk2 : (k : Int) < (n : Int) := by omega
                have hke : decide (n ≤ k) = false := decide_eq_false (by omega)
                have hkf : decide (k < n) = true := decide_eq_true hkm; obtain ⟨xs, hxs, hown⟩ := HF.out.S.rA.get HIH.out; obtain ⟨gh, eg, _, _⟩ := own_form hown (show 0 < n by omega)
                have eg : ao = some ⟨gh, 0, none⟩ := eg; subst eg; have hown2 : wr.ownsRow base 93 2 (.slice (some ⟨gh, 0, none⟩) n cap) n xs := hown; obtain ⟨a0, a1⟩ := cellsA1 (i := i) hown2 hkm (fun q u h1 h2 hu => HMA.out i xs hil3 hxs q u hu)
                obtain ⟨b0, b1⟩ := cellsA1 (i := i) hoy2 hkn (fun q u h1 h2 hu => hm1 q u (by show q < n * 2; omega) hu)
                clear hm1 hm2 hoy hoy2 hown hown2 hxs
                go_wp2_with fail
                refine wp_region_quiet_lit (by kernel_rfl) (by kernel_rfl) ?_
                repeat (go_big_quiet_step (fail))
                refine wpQuiet_nil ?_; intro _ hw'; obtain ⟨nq, hw''⟩ := hw'; subst hw''
                go_wp2_with fail
                go_roundw
                case rel => first | exact ⟨k + 1, by rw [Int.natCast_add]; rfl, hkn, Lib.hid (HF.out.drewN nq)⟩ | ((repeat apply Exists.intro); exact ⟨⟨k + 1, by rw [Int.natCast_add]; rfl, hkn, Lib.hid (HF.out.drewN nq)⟩, rfl⟩)
                case measure => simp only [intOf]; omega
               ·have hkc : decide ((k : Int) < (n : Int)) = false := decide_eq_false (by omega)
                have hkd : decide ((n : Int) ≤ (k : Int)) = true := decide_eq_true (by omega)
                have hke : decide (n ≤ k) = true := decide_eq_true (by omega)
                have hkf : decide (k < n) = false := decide_eq_false hkm; obtain ⟨b0, b1⟩ := cellsA2 (i := i) hoy2 hkn n (by omega) hm2
                clear hm1 hm2 hoy hoy2
                go_wp2_with fail
                refine wp_region_quiet_lit (by kernel_rfl) (by kernel_rfl) ?_
                repeat (go_big_quiet_step (fail))
                refine wpQuiet_nil ?_; intro _ hw'; obtain ⟨nq, hw''⟩ := hw'; subst hw''
                go_wp2_with fail
                go_roundw
                case rel => first | exact ⟨k + 1, by rw [Int.natCast_add]; rfl, hkn, Lib.hid (HF.out.drewN nq)⟩ | ((repeat apply Exists.intro); exact ⟨⟨k + 1, by rw [Int.natCast_add]; rfl, hkn, Lib.hid (HF.out.drewN nq)⟩, rfl⟩)
                case measure => simp only [intOf]; omega
              ·have hkb : decide ((k : Int) < (n : Int) + 70) = false := decide_eq_false (by omega)
               go_wp2_with fail
               go_roundw
               case rel => exact ⟨i + 1, by rw [Int.natCast_add]; rfl, hil3, HF⟩
               case measure => simp only [intOf]; omega
            ·have hib3 : decide ((i : Int) < (hA.length : Int)) = false := decide_eq_false (by omega)
             clear hi3
             go_wp2_with fail
             go_loopw [20] (fun c w' => ∃ i : Nat, c = .int .i64 (i : Int) ∧ i ≤ hG.length ∧ Hid (Fin base W0 w' hA hG (.slice Aa hA.length ca) (.slice Ag hG.length cg) xA xG B1 B2 (.slice Ax hA.length cx) (.slice Af hG.length cf) lsA lsG)) (fun c _ => hG.length - (intOf c).toNat)
             case atStart => exact ⟨0, rfl, Nat.zero_le _, HF⟩
             case round =>
              clear HF; obtain ⟨i, rfl, hi3, HF⟩ := hrel; by_cases hil3 : i < hG.length
              ·have hib3 : decide ((i : Int) < (hG.length : Int)) = true := decide_eq_true (by omega)
               have hi0 : (0 : Int) ≤ (i : Int) := Int.natCast_nonneg _; have hi1 : (i : Int) < (hG.length : Int) := by omega
               have hiw : IntKind.i64.wrap ((i : Int) + 1) = (i : Int) + 1 := IntWalk.i64_in _ (by omega)
               have hiw2 : IntKind.i64.wrap (100000 + (i : Int)) = 100000 + (i : Int) := IntWalk.i64_in _ (by omega)
               have hiw3 : IntKind.i64.wrap (-9 - (i : Int)) = -9 - (i : Int) := IntWalk.i64_in _ (by omega)
               have hxi : lsG[i]? = some (lsG[i]'(by omega)) := List.getElem?_eq_getElem (by omega)
               generalize lsG[i]'(by omega) = x at hxi
               obtain ⟨h, hih, hx70, _, ys, hoy, hm1, hm2⟩ := HF.out.lG i x hxi; obtain ⟨gx, ex, _, _⟩ := own_form hoy (by omega)
               obtain ⟨xa, xn, xc⟩ := x; obtain ⟨ao, n, cap⟩ := h; have ex : xa = some ⟨gx, 0, none⟩ := ex; have hx70 : xn = n + 70 := hx70; subst ex hx70; have hin : n ≤ 4194304 := HNG.out _ (List.mem_of_getElem? hih); obtain ⟨ad1, c1, e1, _, _⟩ := head_at HF.out.S.aG hih; injection e1 with e1 e1n e1c; clear e1n; subst e1 e1c; obtain ⟨ad2, c2, e2, _, _⟩ := head_at HF.out.F hxi; injection e2 with e2 e2n e2c; clear e2n; subst e2 e2c; have HIH := Lib.hid hih; have HXI := Lib.hid hxi; clear hih hxi hm1 hm2 hoy
               go_wp2_with fail
               go_loopw [21] (fun c w' => ∃ k : Nat, c = .int .i64 (k : Int) ∧ k ≤ n + 70 ∧ Hid (Fin base W0 w' hA hG (.slice Aa hA.length ca) (.slice (some ad1) hG.length cg) xA xG B1 B2 (.slice Ax hA.length cx) (.slice (some ad2) hG.length cf) lsA lsG)) (fun c _ => n + 70 - (intOf c).toNat)
               case atStart => exact ⟨0, rfl, Nat.zero_le _, HF⟩
               case round =>
                clear HF; obtain ⟨k, rfl, hk, HF⟩ := hrel; obtain ⟨ad3, c3, e3, _, hcL⟩ := head_at HF.out.S.aG HIH.out; injection e3 with e3 e3n e3c; clear e3n; injection e3 with e3; subst e3 e3c; replace hcL : wr.cell? (ad1.add i) = some (.slice ao n cap) := hcL; obtain ⟨ad4, c4, e4, _, hcG⟩ := head_at HF.out.F HXI.out; injection e4 with e4 e4n e4c; clear e4n; injection e4 with e4; subst e4 e4c; replace hcG : wr.cell? (ad2.add i) = some (.slice (some ⟨gx, 0, none⟩) (n + 70) xc) := hcG; by_cases hkn : k < n + 70
                ·have hkb : decide ((k : Int) < (n : Int) + 70) = true := decide_eq_true (by omega)
                 have hk0 : (0 : Int) ≤ (k : Int) := Int.natCast_nonneg _; have hk1 : (k : Int) < (n : Int) + 70 := by omega
                 have hkw : IntKind.i64.wrap ((k : Int) + 1) = (k : Int) + 1 := IntWalk.i64_in _ (by omega)
                 obtain ⟨h', hih', _, _, ys, hoy, hm1, hm2⟩ := HF.out.lG i _ HXI.out; rw [HIH.out] at hih'; cases hih'; have hoy2 : wr.ownsRow base 3 1 (.slice (some ⟨gx, 0, none⟩) (n + 70) xc) (n + 70) ys := hoy; by_cases hkm : k < n
                 ·have hkc : decide ((k : Int) < (n : Int)) = true := decide_eq_true (by omega)
                  have hkd : decide ((n : Int) ≤ (k : Int)) = false := decide_eq_false (by omega)
                  have hk2 : (k : Int) < (n : Int) := by omega
                  have hke : decide (n ≤ k) = false := decide_eq_false (by omega)
                  have hkf : decide (k < n) = true := decide_eq_true hkm; obtain ⟨xs, hxs, hown⟩ := HF.out.S.rG.get HIH.out; obtain ⟨gh, eg, _, _⟩ := own_form hown (show 0 < n by omega)
                  have eg : ao = some ⟨gh, 0, none⟩ := eg; subst eg; have hown2 : wr.ownsRow base 3 1 (.slice (some ⟨gh, 0, none⟩) n cap) n xs := hown; obtain a0 := cellsG1 (i := i) hown2 hkm (fun q u h1 hu => HMG.out i xs hil3 hxs q u hu)
                  obtain b0 := cellsG1 (i := i) hoy2 hkn (fun q u h1 hu => hm1 q u (by show q < n * 1; omega) hu)
                  clear hm1 hm2 hoy hoy2 hown hown2 hxs
                  go_wp2_with fail
                  go_roundw
                  case rel => first | exact ⟨k + 1, by rw [Int.natCast_add]; rfl, hkn, HF⟩ | ((repeat apply Exists.intro); exact ⟨⟨k + 1, by rw [Int.natCast_add]; rfl, hkn, HF⟩, rfl⟩)
                  case measure => simp only [intOf]; omega
                 ·have hkc : decide ((k : Int) < (n : Int)) = false := decide_eq_false (by omega)
                  have hkd : decide ((n : Int) ≤ (k : Int)) = true := decide_eq_true (by omega)
                  have hke : decide (n ≤ k) = true := decide_eq_true (by omega)
                  have hkf : decide (k < n) = false := decide_eq_false hkm; obtain b0 := cellsG2 (i := i) hoy2 hkn n (by omega) hm2
                  clear hm1 hm2 hoy hoy2
                  go_wp2_with fail
                  go_roundw
                  case rel => first | exact ⟨k + 1, by rw [Int.natCast_add]; rfl, hkn, HF⟩ | ((repeat apply Exists.intro); exact ⟨⟨k + 1, by rw [Int.natCast_add]; rfl, hkn, HF⟩, rfl⟩)
                  case measure => simp only [intOf]; omega
                ·have hkb : decide ((k : Int) < (n : Int) + 70) = false := decide_eq_false (by omega)
                 go_wp2_with fail
                 go_roundw
                 case rel => exact ⟨i + 1, by rw [Int.natCast_add]; rfl, hil3, HF⟩
                 case measure => simp only [intOf]; omega
              ·have hib3 : decide ((i : Int) < (hG.length : Int)) = false := decide_eq_false (by omega)
               clear hi3
               go_wp2_with fail
               go_ret; have ehA := EHA.out; have ehG := EHG.out; subst ehA ehG; exact ⟨rfl, HF.out.S.os, HF.out.S.tape, HF.out.S.output, HF.out.S.size, HF.out.S.rest⟩
end Apt
end Go.Proofs.YtcijanmckhlpiaaDoor
namespace Go.Proofs.YtcijanmckhlpiaaDoor
open Go.RowKit Go.Proofs.YtcijanmckhlpiaaDoorW.PrintWords Go.Proofs.YtcijanmckhlpiaaDoorW.PrintLast Go.Proofs.YtcijanmckhlpiaaDoorW.PrintMore
namespace Spr
open Bld (HD hdr kH kInt BR TRows bldR RetBuild TbOwn cvA)
open Apt
abbrev BRows := List (List PTableBack.S93)
structure Tv (lo hi : Nat) (W : World) (tj : Nat) (A : Option Addr) (c : Nat) (B : Option Addr) (d : Nat) (r1 : BRows) (r2 : List (List Int)) : Prop where
 box : W.heap[tj]? = some (.cells #[.slice A r1.length c, .slice B r2.length d] 25 (0, 0))
 rA : (Kd.slice 93 PTableBack.k93).C W A r1.length r1
 cA : r1.length ≤ c
 rB : (Kd.slice 3 (Kd.int .i64)).C W B r2.length r2
 cB : r2.length ≤ d
 tb : ∃ hA hG, Tb lo hi W (.slice A r1.length c) (.slice B r2.length d) hA hG
section
variable {lo hi : Nat} {W W' : World} {tj : Nat} {A : Option Addr} {c : Nat} {B : Option Addr} {d : Nat} {r1 : BRows} {r2 : List (List Int)}
theorem Tv.below (H : Tv lo hi W tj A c B d r1 r2) (hb : Below W.heap.size W W') : Tv lo hi W' tj A c B d r1 r2 := by
 obtain ⟨hA, hG, h⟩ := H.tb; exact ⟨zal H.box hb, Kd.zaw H.rA hb, H.cA, Kd.zaw H.rB hb, H.cB, hA, hG, h.below hb⟩
end
def cvR (r : TRows) : BRows := r.1.map (List.map cvA)
theorem cvR_len (r : TRows) : (cvR r).length = r.1.length := List.length_map ..
theorem tv_build {w W : World} {res : BR} {A B : Option Addr} {c d : Nat} (h : TbOwn W w.heap.size (.slice A (rowsOf res).1.length c) (.slice B (rowsOf res).2.length d) (rowsOf res).1 (rowsOf res).2) (hs : Small (rowsOf res)) :
  Tv w.heap.size W.heap.size (W.alloc (.cells #[.slice A (rowsOf res).1.length c, .slice B (rowsOf res).2.length d] 25)) W.heap.size A c B d (cvR (rowsOf res)) (rowsOf res).2 := by
 obtain ⟨e1, e2, e3, e4⟩ := h.reads rfl rfl; obtain ⟨hA, hG, ht⟩ := TbOwn.tb h hs; have hb := zab (Below.refl W.heap.size W) (.cells #[.slice A (rowsOf res).1.length c, .slice B (rowsOf res).2.length d] 25); refine ⟨by rw [cvR_len]; exact zav W _, by rw [cvR_len]; exact Kd.zaw e1 hb, by rw [cvR_len]; exact e2, Kd.zaw e3 hb, e4, hA, hG, ?_⟩
 rw [cvR_len]; exact ht.below hb
def BV (r : TRows) (code : Int) (W : World) (e : Ending) (W' : World) : Prop := Below W.heap.size W W' ∧ ∃ A c B d s t, e = .returned (.tuple #[.agg #[.slice A (cvR r).length c, .slice B r.2.length d], .int .i64 code, .int .i64 s, .int .i64 t]) ∧
 Tv W.heap.size W'.heap.size (W'.alloc (.cells #[.slice A (cvR r).length c, .slice B r.2.length d] 25)) W'.heap.size A c B d (cvR r) r.2 ∧ (Kd.slice 93 PTableBuilds.k93).C W' A (cvR r).length r.1
theorem bv_of {W W' : World} {res : BR} {e : Ending} (h : RetBuild W res e W') (hs : Small (rowsOf res)) : BV (rowsOf res) (codeOf res) W e W' := by
 obtain ⟨hb, A, c, B, d, s, t, e1, ho⟩ := ret_own h; have h2 := tv_build ho hs; obtain ⟨hA, hG, a1, a2, a3, a4⟩ := ho.own; have e2 := a2.readsH (Kd.zbo a1).2.2; have l1 := a2.len; rw [List.length_map] at l1; rw [l1] at e2; rw [← cvR_len] at e1 h2 e2; exact ⟨hb, A, c, B, d, s, t, e1, h2, e2⟩
def rowsD (s : ByteArray) : BRows × List (List Int) := match Dec.decS s with
 | .ok r => r
 | .error _ => ([], [])
structure SmallB (r : BRows × List (List Int)) : Prop where
 l1 : r.1.length ≤ 2048
 l2 : r.2.length ≤ 2048
 r1 : ∀ x ∈ r.1, x.length ≤ 64
 r2 : ∀ x ∈ r.2, x.length ≤ 128
theorem smallB_nil : SmallB ([], []) := ⟨Nat.zero_le _, Nat.zero_le _, fun x hx => by simp at hx, fun x hx => by simp at hx⟩
theorem Small.cv {r : TRows} (h : Small r) : SmallB (cvR r, r.2) := ⟨by rw [cvR_len]; exact h.l1, h.l2, fun x hx => by
 obtain ⟨y, hy, rfl⟩ := List.mem_map.1 hx; rw [List.length_map]; exact h.r1 y hy, h.r2⟩
theorem rowsD_enc {r1 : BRows} {r2 : List (List Int)} : (Enc.shB r1 r2 = true ∧ rowsD (Enc.encB r1 r2) = (r1, r2)) ∨ (Enc.shB r1 r2 = false ∧ Enc.encB r1 r2 = ⟨#[]⟩ ∧ rowsD (Enc.encB r1 r2) = ([], [])) := by
 cases h : Enc.shB r1 r2 with
 | true => exact .inl ⟨rfl, by unfold rowsD; rw [Dec.dec_enc h]⟩
 | false =>
  have e : Enc.encB r1 r2 = ⟨#[]⟩ := by
   unfold Enc.encB; rw [h]; rfl
  refine .inr ⟨rfl, e, ?_⟩; rw [e]; unfold rowsD; have hd : Dec.decS ⟨#[]⟩ = .error 0 := by
   unfold Dec.decS; rw [if_pos (fun h => absurd h.1 (by decide))]
  rw [hd]
theorem tv_dec {s : ByteArray} {w W : World} {e : Ending} (h : Dec.TabE (Dec.decS s) w w W e) (hs : SmallB (rowsD s)) : ∃ A c B d ev, e = .returned (.tuple #[.agg #[.slice A (rowsD s).1.length c, .slice B (rowsD s).2.length d], ev]) ∧
  Tv w.heap.size W.heap.size (W.alloc (.cells #[.slice A (rowsD s).1.length c, .slice B (rowsD s).2.length d] 25)) W.heap.size A c B d (rowsD s).1 (rowsD s).2 := by
 unfold rowsD at *; cases hd : Dec.decS s with
 | error p =>
  rw [hd] at h; obtain ⟨ev, e1, _⟩ := h; refine ⟨none, 0, none, 0, ev, e1, zav W _, Kd.C_nil _ _, Nat.le_refl _, Kd.C_nil _ _, Nat.le_refl _, [], [], Kd.R_nil _ _ _ _ _, Kd.R_nil _ _ _ _ _, Acc.none, Acc.none, Nat.zero_le _, Nat.zero_le _, fun h hh => by simp at hh, fun h hh => by simp at hh⟩
 | ok r =>
  rw [hd] at h hs; obtain ⟨vA, vG, e1, h1, h2⟩ := h; obtain ⟨A, c, rfl, hc, hC⟩ := h1.reads; obtain ⟨B, d, rfl, hd2, hD⟩ := h2.reads; obtain ⟨hA, a1, a2, _⟩ := h1; obtain ⟨hG, b1, b2, _⟩ := h2; have hb := zab (Below.refl W.heap.size W) (.cells #[.slice A r.1.length c, .slice B r.2.length d] 25); exact ⟨A, c, B, d, _, e1, zav W _, Kd.zaw hC hb, hc, Kd.zaw hD hb, hd2, hA, hG, (tb_of a1 a2 b1 b2 rfl hs.l1 hs.l2 (fun x hx => by have := hs.r1 x hx; omega) (fun x hx => by have := hs.r2 x hx; omega)).below hb⟩
def DV (r : BRows × List (List Int)) (W : World) (e : Ending) (W' : World) : Prop := Below W.heap.size W W' ∧ ∃ A c B d ev, e = .returned (.tuple #[.agg #[.slice A r.1.length c, .slice B r.2.length d], ev]) ∧
 Tv W.heap.size W'.heap.size (W'.alloc (.cells #[.slice A r.1.length c, .slice B r.2.length d] 25)) W'.heap.size A c B d r.1 r.2
theorem dv_of {s : ByteArray} {W W' : World} {e : Ending} (hb : Below W.heap.size W W') (h : Dec.TabE (Dec.decS s) W W W' e) (hs : SmallB (rowsD s)) : DV (rowsD s) W e W' := ⟨hb, tv_dec h hs⟩
end Spr
end Go.Proofs.YtcijanmckhlpiaaDoor
