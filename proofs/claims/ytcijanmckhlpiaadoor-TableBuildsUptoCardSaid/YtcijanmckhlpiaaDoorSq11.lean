-- Texts of this seat, cut to what is used and merged (by shake.py).
import Derived.Test.YtcijanmckhlpiaaDoorSq4
set_option linter.unusedVariables false
set_option linter.unusedSimpArgs false
namespace Go.Proofs.YtcijanmckhlpiaaDoor.PTableBuilds
open Go.RowKit Go.Proofs.YtcijanmckhlpiaaDoorW.PrintWords Go.Proofs.YtcijanmckhlpiaaDoorW.PrintLast Go.Proofs.YtcijanmckhlpiaaDoorW.PrintMore
attribute [local go_sem] max2_int min2_int max_two min_two max_three min_three max_four min_four
mutual
def items_right.j0 : Nat → Int → Bool → List (S112) → List (S115) → List (S77) → Option (Bool)
 | 0, _, _, _, _, _ => none
 | k + 1, x3, x29, x165000, x165001, x165002 => if x29 = true then (some false) else (items_right.l0 k x3 x165002 (x165002.length : Int) 0 x165000 x165001 x165002)
def items_right.l0 : Nat → Int → List (S77) → Int → Int → List (S112) → List (S115) → List (S77) → Option (Bool)
 | 0, _, _, _, _, _, _, _ => none
 | k + 1, x3, x31, x32, x33, x165000, x165001, x165002 => if x33 < x32 then (if 0 ≤ x33 then (if x33 < (x31.length : Int) then (if x33 > 0 then (if ((zal x31 x33).f0) < 0 then (items_right.j2 k x3 x31 x32 x33 true x165000 x165001 x165002 ((zal x31 x33).f0) ((zal x31 x33).f1)) else (items_right.j2 k x3 x31 x32 x33 (decide (((zal x31 x33).f0) ≥ (x165001.length : Int))) x165000 x165001 x165002 ((zal x31 x33).f0) ((zal x31 x33).f1))) else (items_right.j2 k x3 x31 x32 x33 false x165000 x165001 x165002 ((zal x31 x33).f0) ((zal x31 x33).f1))) else (none)) else (none)) else (if 0 < (x165002.length : Int) then (if ((zal x165002 0).f0) = (-1) then (if (((zal x165002 0).f1).length : Int) = 1 then (if 0 < (((zal x165002 0).f1).length : Int) then (some (((zax ((zal x165002 0).f1) 0).f0) == x3)) else (none)) else (some false)) else (some false)) else (none))
def items_right.j2 : Nat → Int → List (S77) → Int → Int → Bool → List (S112) → List (S115) → List (S77) → Int → List (S110) → Option (Bool)
 | 0, _, _, _, _, _, _, _, _, _, _ => none
 | k + 1, x3, x31, x32, x33, x52, x165000, x165001, x165002, x170000, x170001 => if x52 = true then (some false) else (items_right.l1 k x3 x31 x32 x33 x170001 (x170001.length : Int) 0 x165000 x165001 x165002)
def items_right.l1 : Nat → Int → List (S77) → Int → Int → List (S110) → Int → Int → List (S112) → List (S115) → List (S77) → Option (Bool)
 | 0, _, _, _, _, _, _, _, _, _, _ => none
 | k + 1, x3, x31, x32, x33, x54, x55, x56, x165000, x165001, x165002 => if x56 < x55 then (if 0 ≤ x56 then (if x56 < (x54.length : Int) then (if ((zax x54 x56).f0) < 1 then (some false) else (if ((zax x54 x56).f0) ≥ (wrap64 (x3 + (x165001.length : Int))) then (some false) else (items_right.l1 k x3 x31 x32 x33 x54 x55 (wrap64 (x56 + 1)) x165000 x165001 x165002))) else (none)) else (none)) else (items_right.l0 k x3 x31 x32 (wrap64 (x33 + 1)) x165000 x165001 x165002)
end
def items_right.f (k : Nat) (l0_0 : List (S112)) (l0_1 : List (S115)) (l0_2 : List (S77)) : Option (Bool) := if (l0_0.length : Int) < 1 then (items_right.j0 k (l0_0.length : Int) true l0_0 l0_1 l0_2) else (if (l0_0.length : Int) > 64 then (items_right.j0 k (l0_0.length : Int) true l0_0 l0_1 l0_2) else (if (l0_1.length : Int) > 128 then (items_right.j0 k (l0_0.length : Int) true l0_0 l0_1 l0_2) else (items_right.j0 k (l0_0.length : Int) ((l0_2.length : Int) == 0) l0_0 l0_1 l0_2)))
set_option maxHeartbeats 8000000 in
set_option maxRecDepth 100000 in
theorem items_right.calls (k : Nat) (A0_0 : Option Addr) (c0_0 : Nat) (l0_0 : List (S112)) (A0_1 : Option Addr) (c0_1 : Nat) (l0_1 : List (S115)) (A0_2 : Option Addr) (c0_2 : Nat) (l0_2 : List (S77)) (r : Bool) (w : World) (hr0_0 : Kd.C k112 w A0_0 l0_0.length l0_0) (hc0_0 : l0_0.length ≤ c0_0) (hr0_1 : Kd.C k115 w A0_1 l0_1.length l0_1) (hc0_1 : l0_1.length ≤ c0_1) (hr0_2 : Kd.C k77 w A0_2 l0_2.length l0_2) (hc0_2 : l0_2.length ≤ c0_2) (h : items_right.f k l0_0 l0_1 l0_2 = some r) :
  Calls Tryd.prog 63 #[.agg #[.slice A0_0 l0_0.length c0_0, .slice A0_1 l0_1.length c0_1, .slice A0_2 l0_2.length c0_2]] w fun e w' => e = .returned (.bool r) ∧ Below w.heap.size w w' := by
 have hu51 := Tryd.underlying51; have hu77 := Tryd.underlying77; have hu110 := Tryd.underlying110; have HR0_0 := zaj.mk hr0_0; have HC0_0 := zaj.mk hc0_0; clear hr0_0 hc0_0; have HR0_1 := zaj.mk hr0_1; have HC0_1 := zaj.mk hc0_1; clear hr0_1 hc0_1; have HR0_2 := zaj.mk hr0_2; have HC0_2 := zaj.mk hc0_2; clear hr0_2 hc0_2; have HB := zaj.mk (Below.refl w.heap.size w); have H : (if (l0_0.length : Int) < 1 then (items_right.j0 k (l0_0.length : Int) true l0_0 l0_1 l0_2) else (if (l0_0.length : Int) > 64 then (items_right.j0 k (l0_0.length : Int) true l0_0 l0_1 l0_2) else (if (l0_1.length : Int) > 128 then (items_right.j0 k (l0_0.length : Int) true l0_0 l0_1 l0_2) else (items_right.j0 k (l0_0.length : Int) ((l0_2.length : Int) == 0) l0_0 l0_1 l0_2)))) = some r := h
 clear h; have HC2 := zaj.mk H; clear H
 go_enter Tryd.func63, Tryd.ntmps63
 go_upto_region 2 with (first | ((with_reducible refine zbg (N := 1) rfl ?_); (try (refine zaz (by rfl) ?_; dsimp only)); refine zbe ?hg (N := 1) ?hd (cs := #[.slice A0_0 l0_0.length c0_0, .slice A0_1 l0_1.length c0_1, .slice A0_2 l0_2.length c0_2]) (t := 51) ?hr ?_; (case hd => rfl); (case hg => rfl); (case hr => first | (go_simp; done) | (go_simp; rfl)); intro gb164 hg w3 hbox hb; have n0_ := zaj.mk (zam (by repeat (first | (with_reducible first | exact HB.out | apply zac | apply zab | apply below_drew1) | exact HB.out)) hb); have n1_ := zaj.mk (hbox); have n2_ := zaj.mk ((by rw [hg]; exact (zao (by repeat (first | (with_reducible first | exact HB.out | apply zac | apply zab | apply below_drew1) | exact HB.out))) : w.heap.size ≤ gb164)); have n3_ := zaj.mk ((by rw [hg]; exact (zao (by repeat (first | (with_reducible first | exact HB.out | apply zac | apply zab | apply below_drew1) | exact HB.out))) : w.heap.size ≤ gb164)); clear HB; have HB := n0_; have BK164 := n1_; have GW164 := n2_; have GE164 := n3_; clear n0_ n1_ n2_ n3_; clear hb hbox hg; have hcz4_0 : w3.cell? ⟨gb164, 0, none⟩ = some (.slice A0_0 l0_0.length c0_0) := (zaa BK164.out 0).trans rfl; have hcz4_1 : w3.cell? ⟨gb164, 1, none⟩ = some (.slice A0_1 l0_1.length c0_1) := (zaa BK164.out 1).trans rfl; have hcz4_2 : w3.cell? ⟨gb164, 2, none⟩ = some (.slice A0_2 l0_2.length c0_2) := (zaa BK164.out 2).trans rfl; have hfz4_0 := zae BK164.out 0; have hfz4_1 := zae BK164.out 1; have hfz4_2 := zae BK164.out 2))
 (try simp only [Act.put, List.setIfInBounds_toArray, List.set_cons_zero, List.set_cons_succ])
 go_cut [29] (fun v29 wc => ∃ (kq : Nat) (x29_1 : Bool), v29 = .bool x29_1 ∧ zaj (items_right.j0 kq (l0_0.length : Int) x29_1 l0_0 l0_1 l0_2 = some r) ∧ zaj (kq ≤ k) ∧ zaj (wc.heap[gb164]? = some (.cells #[(.slice A0_0 l0_0.length c0_0), (.slice A0_1 l0_1.length c0_1), (.slice A0_2 l0_2.length c0_2)] 51 (0, 0))) ∧ zaj (Below w.heap.size w wc))
 case first =>
  have H := HC2.out; clear HC2; by_cases c5 : (l0_0.length : Int) < 1
  ·rw [if_pos c5] at H; have c5b0 : decide ((l0_0.length : Int) < 1) = true := decide_eq_true c5; have c5b1 : decide (l0_0.length < 1) = true := decide_eq_true (by omega)
   clear c5
   (first | rw [c5b0] | (simp only [i64_w, i32_w]; rw [c5b0]) | skip)
   have H' := zaj.mk H; clear H; go_wp2
   go_meet
   case rel => exact ⟨_, (true), (by first | rfl | (simp; done) | (simp [*]; done)), H', ⟨by first | omega | exact Nat.le_refl _⟩, ⟨by (with_reducible repeat (first | apply zai | apply zah | apply zad)); exact BK164.out⟩, ⟨by repeat (first | (with_reducible first | exact HB.out | apply zac | apply zab | apply below_drew1 | refine zaf ?_ GE164.out) | exact HB.out)⟩⟩
  ·rw [if_neg c5] at H; have c5b0 : decide ((l0_0.length : Int) < 1) = false := decide_eq_false c5; have c5b1 : decide (l0_0.length < 1) = false := decide_eq_false (by omega)
   clear c5
   (first | rw [c5b0] | (simp only [i64_w, i32_w]; rw [c5b0]) | skip)
   by_cases c6 : (l0_0.length : Int) > 64
   ·rw [if_pos c6] at H; have c6b0 : decide (64 < (l0_0.length : Int)) = true := decide_eq_true c6; have c6b1 : decide (64 < l0_0.length) = true := decide_eq_true (by omega)
    clear c6; have H' := zaj.mk H; clear H; go_wp2
    go_meet
    case rel => exact ⟨_, (true), (by first | rfl | (simp; done) | (simp [*]; done)), H', ⟨by first | omega | exact Nat.le_refl _⟩, ⟨by (with_reducible repeat (first | apply zai | apply zah | apply zad)); exact BK164.out⟩, ⟨by repeat (first | (with_reducible first | exact HB.out | apply zac | apply zab | apply below_drew1 | refine zaf ?_ GE164.out) | exact HB.out)⟩⟩
   ·rw [if_neg c6] at H; have c6b0 : decide (64 < (l0_0.length : Int)) = false := decide_eq_false c6; have c6b1 : decide (64 < l0_0.length) = false := decide_eq_false (by omega)
    clear c6; by_cases c7 : (l0_1.length : Int) > 128
    ·rw [if_pos c7] at H; have c7b0 : decide (128 < (l0_1.length : Int)) = true := decide_eq_true c7; have c7b1 : decide (128 < l0_1.length) = true := decide_eq_true (by omega)
     clear c7; have H' := zaj.mk H; clear H; have hcz8_0 : w3.cell? ⟨gb164, 0, none⟩ = some (.slice A0_0 l0_0.length c0_0) := (zaa BK164.out 0).trans rfl; have hcz8_1 : w3.cell? ⟨gb164, 1, none⟩ = some (.slice A0_1 l0_1.length c0_1) := (zaa BK164.out 1).trans rfl; have hcz8_2 : w3.cell? ⟨gb164, 2, none⟩ = some (.slice A0_2 l0_2.length c0_2) := (zaa BK164.out 2).trans rfl; have hfz8_0 := zae BK164.out 0; have hfz8_1 := zae BK164.out 1; have hfz8_2 := zae BK164.out 2; go_wp2
     go_meet
     case rel => exact ⟨_, (true), (by first | rfl | (simp; done) | (simp [*]; done)), H', ⟨by first | omega | exact Nat.le_refl _⟩, ⟨by (with_reducible repeat (first | apply zai | apply zah | apply zad)); exact BK164.out⟩, ⟨by repeat (first | (with_reducible first | exact HB.out | apply zac | apply zab | apply below_drew1 | refine zaf ?_ GE164.out) | exact HB.out)⟩⟩
    ·rw [if_neg c7] at H; have c7b0 : decide (128 < (l0_1.length : Int)) = false := decide_eq_false c7; have c7b1 : decide (128 < l0_1.length) = false := decide_eq_false (by omega)
     clear c7; have H' := zaj.mk H; clear H; have hcz9_0 : w3.cell? ⟨gb164, 0, none⟩ = some (.slice A0_0 l0_0.length c0_0) := (zaa BK164.out 0).trans rfl; have hcz9_1 : w3.cell? ⟨gb164, 1, none⟩ = some (.slice A0_1 l0_1.length c0_1) := (zaa BK164.out 1).trans rfl; have hcz9_2 : w3.cell? ⟨gb164, 2, none⟩ = some (.slice A0_2 l0_2.length c0_2) := (zaa BK164.out 2).trans rfl; have hfz9_0 := zae BK164.out 0; have hfz9_1 := zae BK164.out 1; have hfz9_2 := zae BK164.out 2; go_wp2
     go_meet
     case rel => exact ⟨_, (((l0_2.length : Int) == 0)), (by first | rfl | (simp; done) | (simp [*]; done)), H', ⟨by first | omega | exact Nat.le_refl _⟩, ⟨by (with_reducible repeat (first | apply zai | apply zah | apply zad)); exact BK164.out⟩, ⟨by repeat (first | (with_reducible first | exact HB.out | apply zac | apply zab | apply below_drew1 | refine zaf ?_ GE164.out) | exact HB.out)⟩⟩
 case rest =>
  clear HC2
  try clear p2
  try clear c5
  try clear c5b0
  try clear c5b1
  try clear c6
  try clear c6b0
  try clear c6b1
  try clear c7
  try clear c7b0
  try clear c7b1
  try clear hcz4_0
  try clear hcz4_1
  try clear hcz4_2
  try clear hcz8_0
  try clear hcz8_1
  try clear hcz8_2
  try clear hcz9_0
  try clear hcz9_1
  try clear hcz9_2
  try clear hfz4_0
  try clear hfz4_1
  try clear hfz4_2
  try clear hfz8_0
  try clear hfz8_1
  try clear hfz8_2
  try clear hfz9_0
  try clear hfz9_1
  try clear hfz9_2
  obtain ⟨kq, x29_1, rfl, HA, HJ1, BK164, HB⟩ := hcut; cases kq with
  | zero => exact absurd HA.out (by simp [items_right.j0])
  | succ kj1 =>
   have H := HA.out; clear HA; simp only [items_right.j0] at H; by_cases c10 : x29_1 = true
   ·subst c10; have H1 : (some false) = some r := by rw [if_pos rfl] at H; exact H
    clear H; have H := H1; clear H1; obtain rfl := Option.some.inj H; go_wp2; go_ret; exact ⟨by first | rfl | (simp [errW_none, errW_some] <;> rfl) | (simp [*, errW_none, errW_some] <;> rfl), by repeat (first | (with_reducible first | exact HB.out | apply zac | apply zab | apply below_drew1 | refine zaf ?_ GE164.out) | exact HB.out)⟩
   ·replace c10 := Bool.eq_false_iff.mpr c10; subst c10; have H1 : (items_right.l0 kj1 (l0_0.length : Int) l0_2 (l0_2.length : Int) 0 l0_0 l0_1 l0_2) = some r := by rw [if_neg (show ¬ (false = true) by decide)] at H; exact H
    clear H; have H := H1; clear H1; have H' := zaj.mk H; clear H; have hcz11_0 : wc.cell? ⟨gb164, 0, none⟩ = some (.slice A0_0 l0_0.length c0_0) := (zaa BK164.out 0).trans rfl; have hcz11_1 : wc.cell? ⟨gb164, 1, none⟩ = some (.slice A0_1 l0_1.length c0_1) := (zaa BK164.out 1).trans rfl; have hcz11_2 : wc.cell? ⟨gb164, 2, none⟩ = some (.slice A0_2 l0_2.length c0_2) := (zaa BK164.out 2).trans rfl; have hfz11_0 := zae BK164.out 0; have hfz11_1 := zae BK164.out 1; have hfz11_2 := zae BK164.out 2; go_wp2
    go_loopg [33] kj1 (fun kq v33 w' => ∃ (x33_2 : Int), v33 = .int .i64 x33_2 ∧ zaj (items_right.l0 kq (l0_0.length : Int) l0_2 (l0_2.length : Int) x33_2 l0_0 l0_1 l0_2 = some r) ∧ zaj (kq ≤ kj1) ∧ zaj (w'.heap[gb164]? = some (.cells #[(.slice A0_0 l0_0.length c0_0), (.slice A0_1 l0_1.length c0_1), (.slice A0_2 l0_2.length c0_2)] 51 (0, 0))) ∧ zaj (Below w.heap.size w w'))
    case atStart => exact ⟨(0), (by first | rfl | (simp; done) | (simp [*]; done)), H', ⟨Nat.le_refl _⟩, ⟨by (with_reducible repeat (first | apply zai | apply zah | apply zad)); exact BK164.out⟩, ⟨by repeat (first | (with_reducible first | exact HB.out | apply zac | apply zab | apply below_drew1 | refine zaf ?_ GE164.out) | exact HB.out)⟩⟩
    case round =>
     clear H'
     try clear c1
     try clear p2
     try clear c5
     try clear c5b0
     try clear c5b1
     try clear c6
     try clear c6b0
     try clear c6b1
     try clear c7
     try clear c7b0
     try clear c7b1
     try clear c10
     try clear hcz11_0
     try clear hcz11_1
     try clear hcz11_2
     try clear hcz4_0
     try clear hcz4_1
     try clear hcz4_2
     try clear hcz8_0
     try clear hcz8_1
     try clear hcz8_2
     try clear hcz9_0
     try clear hcz9_1
     try clear hcz9_2
     try clear hfz11_0
     try clear hfz11_1
     try clear hfz11_2
     try clear hfz4_0
     try clear hfz4_1
     try clear hfz4_2
     try clear hfz8_0
     try clear hfz8_1
     try clear hfz8_2
     try clear hfz9_0
     try clear hfz9_1
     try clear hfz9_2
     try clear p2
     obtain ⟨x33_2, rfl, HA, HK2, BK164, HB⟩ := hrel; cases gk with
     | zero => exact absurd HA.out (by simp [items_right.l0])
     | succ k2 =>
      have H := HA.out; clear HA; simp only [items_right.l0] at H; by_cases c12 : x33_2 < (l0_2.length : Int)
      ·rw [if_pos c12] at H; have c12b0 : decide (x33_2 < (l0_2.length : Int)) = true := decide_eq_true c12; clear c12; by_cases c13 : 0 ≤ x33_2
       ·rw [if_pos c13] at H; have c13b0 : decide (0 ≤ x33_2) = true := decide_eq_true c13; clear c13; by_cases c14 : x33_2 < (l0_2.length : Int)
        ·rw [if_pos c14] at H; have c14b0 : decide (x33_2 < (l0_2.length : Int)) = true := decide_eq_true c14; clear c14; have HC15 := zaj.mk H; clear H; have p168 : 0 ≤ (x33_2 : Int) := of_decide_eq_true (by first | (with_reducible assumption) | assumption)
         have q168 : x33_2 < (l0_2.length : Int) := of_decide_eq_true (by first | (with_reducible assumption) | assumption)
         obtain ⟨ad168, A168_1, c168_1, e168, hx168_0, hx168_1, hl168_1, hi168_1⟩ := at_T77 HR0_2.out x33_2 p168 q168; cases e168; replace hx168_0 := (HB.out.cell (World.block_lt_of_cell? w _ hx168_0)).trans hx168_0; replace hx168_1 := (HB.out.cell (World.block_lt_of_cell? w _ hx168_1)).trans hx168_1; have HR168_1 := zaj.mk hi168_1; have HC168_1 := zaj.mk hl168_1; clear hi168_1 hl168_1; replace p168 := eq_true p168; replace q168 := eq_true q168
         go_upto_region 7 with (first | ((with_reducible refine zbg (N := 5) rfl ?_); (try (refine zaz (by rfl) ?_; dsimp only)); refine zbe ?hg (N := 5) ?hd (cs := #[.int .i64 0, .slice none 0 0]) (t := 77) ?hr ?_; (case hd => rfl); (case hg => rfl); (case hr => first | (go_simp; done) | (go_simp; rfl)); intro gb169 hg w16 hbox hb; have n0_ := zaj.mk (zak (g := gb164) (o := .cells #[.slice A0_0 l0_0.length c0_0, .slice A0_1 l0_1.length c0_1, .slice (some ad168) l0_2.length c0_2] 51 (0, 0)) (by (with_reducible repeat (first | apply zai | apply zah | apply zad)); exact BK164.out) hb); have n1_ := zaj.mk (zam (by repeat (first | (with_reducible first | exact HB.out | apply zac | apply zab | apply below_drew1 | refine zaf ?_ GE164.out) | exact HB.out)) hb); have n2_ := zaj.mk (hbox); have n3_ := zaj.mk ((by rw [hg]; exact (zao (by repeat (first | (with_reducible first | exact HB.out | apply zac | apply zab | apply below_drew1 | refine zaf ?_ GE164.out) | exact HB.out))) : w.heap.size ≤ gb169)); have n4_ := zaj.mk ((by rw [hg]; exact (zao (by repeat (first | (with_reducible first | exact HB.out | apply zac | apply zab | apply below_drew1 | refine zaf ?_ GE164.out) | exact HB.out))) : w.heap.size ≤ gb169)); have n5_ := zaj.mk ((by rw [hg]; exact Nat.ne_of_lt (zba (g := gb164) (o := .cells #[.slice A0_0 l0_0.length c0_0, .slice A0_1 l0_1.length c0_1, .slice (some ad168) l0_2.length c0_2] 51 (0, 0)) (by (with_reducible repeat (first | apply zai | apply zah | apply zad)); exact BK164.out)) : gb164 ≠ gb169)); have n6_ := zaj.mk ((by rw [hg]; exact Nat.ne_of_gt (zba (g := gb164) (o := .cells #[.slice A0_0 l0_0.length c0_0, .slice A0_1 l0_1.length c0_1, .slice (some ad168) l0_2.length c0_2] 51 (0, 0)) (by (with_reducible repeat (first | apply zai | apply zah | apply zad)); exact BK164.out)) : gb169 ≠ gb164)); clear BK164; clear HB; have BK164 := n0_; have HB := n1_; have BK169 := n2_; have GW169 := n3_; have GE169 := n4_; have NB164_169 := n5_; have NB169_164 := n6_; clear n0_ n1_ n2_ n3_ n4_ n5_ n6_; clear hb hbox hg; have hnb17 := NB169_164.out; have hnc17 := NB164_169.out; have hcz18_0 : w16.cell? ⟨gb169, 0, none⟩ = some (.int .i64 0) := (zaa BK169.out 0).trans rfl; have hcz18_1 : w16.cell? ⟨gb169, 1, none⟩ = some (.slice none 0 0) := (zaa BK169.out 1).trans rfl; have hfz18_0 := zae BK169.out 0; have hfz18_1 := zae BK169.out 1))
         (try simp only [Act.put, List.setIfInBounds_toArray, List.set_cons_zero, List.set_cons_succ])
         go_cut [52] (fun v52 wc => ∃ (kq : Nat) (x52_14 : Bool), v52 = .bool x52_14 ∧ zaj (items_right.j2 kq (l0_0.length : Int) l0_2 (l0_2.length : Int) x33_2 x52_14 l0_0 l0_1 l0_2 ((zal l0_2 x33_2).f0) ((zal l0_2 x33_2).f1) = some r) ∧ zaj (kq ≤ k2) ∧ zaj (wc.heap[gb164]? = some (.cells #[(.slice A0_0 l0_0.length c0_0), (.slice A0_1 l0_1.length c0_1), (.slice (some ad168) l0_2.length c0_2)] 51 (0, 0))) ∧ zaj (wc.heap[gb169]? = some (.cells #[.int .i64 ((zal l0_2 x33_2).f0), (.slice A168_1 ((zal l0_2 x33_2).f1).length c168_1)] 77 (0, 0))) ∧ zaj (Below w.heap.size w wc))
         case first =>
          have H := HC15.out; clear HC15; by_cases c19 : x33_2 > 0
          ·rw [if_pos c19] at H; have c19b0 : decide (0 < x33_2) = true := decide_eq_true c19; clear c19
           (first | rw [c19b0] | (simp only [i64_w, i32_w]; rw [c19b0]) | skip)
           by_cases c20 : ((zal l0_2 x33_2).f0) < 0
           ·rw [if_pos c20] at H; have c20b0 : decide (((zal l0_2 x33_2).f0) < 0) = true := decide_eq_true c20; clear c20; have H' := zaj.mk H; clear H; have hnb21 := NB169_164.out; have hnc21 := NB164_169.out; have hcz22_0 : w16.cell? ⟨gb169, 0, none⟩ = some (.int .i64 0) := (zaa BK169.out 0).trans rfl; have hcz22_1 : w16.cell? ⟨gb169, 1, none⟩ = some (.slice none 0 0) := (zaa BK169.out 1).trans rfl; have hfz22_0 := zae BK169.out 0; have hfz22_1 := zae BK169.out 1; go_wp2
            go_meet
            case rel => exact ⟨_, (true), (by first | rfl | (simp; done) | (simp [*]; done)), H', ⟨by have := HJ1.out; have := HK2.out; first | omega | exact Nat.le_refl _⟩, ⟨by (with_reducible repeat (first | apply zai | apply zah | apply zad)); refine zar ?_ NB164_169.out _; (with_reducible repeat (first | apply zai | apply zah | apply zad)); refine zar ?_ NB164_169.out _; (with_reducible repeat (first | apply zai | apply zah | apply zad)); exact BK164.out⟩, ⟨by (with_reducible repeat (first | apply zai | apply zah | apply zad)); refine zat (cs := #[.int .i64 ((zal l0_2 x33_2).f0), .slice none 0 0]) ?_ 1 _ rfl; (with_reducible repeat (first | apply zai | apply zah | apply zad)); refine zat (cs := #[.int .i64 0, .slice none 0 0]) ?_ 0 _ rfl; (with_reducible repeat (first | apply zai | apply zah | apply zad)); exact BK169.out⟩, ⟨by repeat (first | (with_reducible first | exact HB.out | apply zac | apply zab | apply below_drew1 | refine zaf ?_ GE164.out | refine zaf ?_ GE169.out) | exact HB.out)⟩⟩
           ·rw [if_neg c20] at H; have c20b0 : decide (((zal l0_2 x33_2).f0) < 0) = false := decide_eq_false c20; clear c20; have H' := zaj.mk H; clear H; have hnb23 := NB169_164.out; have hnc23 := NB164_169.out; have hcz24_0 : w16.cell? ⟨gb169, 0, none⟩ = some (.int .i64 0) := (zaa BK169.out 0).trans rfl; have hcz24_1 : w16.cell? ⟨gb169, 1, none⟩ = some (.slice none 0 0) := (zaa BK169.out 1).trans rfl; have hfz24_0 := zae BK169.out 0; have hfz24_1 := zae BK169.out 1; have hcz25_0 : w16.cell? ⟨gb164, 0, none⟩ = some (.slice A0_0 l0_0.length c0_0) := (zaa BK164.out 0).trans rfl; have hcz25_1 : w16.cell? ⟨gb164, 1, none⟩ = some (.slice A0_1 l0_1.length c0_1) := (zaa BK164.out 1).trans rfl; have hcz25_2 : w16.cell? ⟨gb164, 2, none⟩ = some (.slice (some ad168) l0_2.length c0_2) := (zaa BK164.out 2).trans rfl; have hfz25_0 := zae BK164.out 0; have hfz25_1 := zae BK164.out 1; have hfz25_2 := zae BK164.out 2; go_wp2
            go_meet
            case rel => exact ⟨_, (decide (((zal l0_2 x33_2).f0) ≥ (l0_1.length : Int))), (by first | rfl | (simp; done) | (simp [*]; done)), H', ⟨by have := HJ1.out; have := HK2.out; first | omega | exact Nat.le_refl _⟩, ⟨by (with_reducible repeat (first | apply zai | apply zah | apply zad)); refine zar ?_ NB164_169.out _; (with_reducible repeat (first | apply zai | apply zah | apply zad)); refine zar ?_ NB164_169.out _; (with_reducible repeat (first | apply zai | apply zah | apply zad)); exact BK164.out⟩, ⟨by (with_reducible repeat (first | apply zai | apply zah | apply zad)); refine zat (cs := #[.int .i64 ((zal l0_2 x33_2).f0), .slice none 0 0]) ?_ 1 _ rfl; (with_reducible repeat (first | apply zai | apply zah | apply zad)); refine zat (cs := #[.int .i64 0, .slice none 0 0]) ?_ 0 _ rfl; (with_reducible repeat (first | apply zai | apply zah | apply zad)); exact BK169.out⟩, ⟨by repeat (first | (with_reducible first | exact HB.out | apply zac | apply zab | apply below_drew1 | refine zaf ?_ GE164.out | refine zaf ?_ GE169.out) | exact HB.out)⟩⟩
          ·rw [if_neg c19] at H; have c19b0 : decide (0 < x33_2) = false := decide_eq_false c19; clear c19
           (first | rw [c19b0] | (simp only [i64_w, i32_w]; rw [c19b0]) | skip)
           have H' := zaj.mk H; clear H; go_wp2
           go_meet
           case rel => exact ⟨_, (false), (by first | rfl | (simp; done) | (simp [*]; done)), H', ⟨by have := HJ1.out; have := HK2.out; first | omega | exact Nat.le_refl _⟩, ⟨by (with_reducible repeat (first | apply zai | apply zah | apply zad)); refine zar ?_ NB164_169.out _; (with_reducible repeat (first | apply zai | apply zah | apply zad)); refine zar ?_ NB164_169.out _; (with_reducible repeat (first | apply zai | apply zah | apply zad)); exact BK164.out⟩, ⟨by (with_reducible repeat (first | apply zai | apply zah | apply zad)); refine zat (cs := #[.int .i64 ((zal l0_2 x33_2).f0), .slice none 0 0]) ?_ 1 _ rfl; (with_reducible repeat (first | apply zai | apply zah | apply zad)); refine zat (cs := #[.int .i64 0, .slice none 0 0]) ?_ 0 _ rfl; (with_reducible repeat (first | apply zai | apply zah | apply zad)); exact BK169.out⟩, ⟨by repeat (first | (with_reducible first | exact HB.out | apply zac | apply zab | apply below_drew1 | refine zaf ?_ GE164.out | refine zaf ?_ GE169.out) | exact HB.out)⟩⟩
         case rest =>
          clear HC15
          try clear c1
          try clear p1
          try clear q1
          try clear hx1
          try clear c2
          try clear p2
          try clear c5
          try clear c5b0
          try clear c5b1
          try clear c6
          try clear c6b0
          try clear c6b1
          try clear c7
          try clear c7b0
          try clear c7b1
          try clear c10
          try clear c12
          try clear c12b0
          try clear c13
          try clear c13b0
          try clear c14
          try clear c14b0
          try clear c16
          try clear p16
          try clear q16
          try clear hx16
          try clear c17
          try clear c19
          try clear c19b0
          try clear c20
          try clear c20b0
          try clear c21
          try clear c23
          try clear hcz11_0
          try clear hcz11_1
          try clear hcz11_2
          try clear hcz18_0
          try clear hcz18_1
          try clear hcz22_0
          try clear hcz22_1
          try clear hcz24_0
          try clear hcz24_1
          try clear hcz25_0
          try clear hcz25_1
          try clear hcz25_2
          try clear hcz4_0
          try clear hcz4_1
          try clear hcz4_2
          try clear hcz8_0
          try clear hcz8_1
          try clear hcz8_2
          try clear hcz9_0
          try clear hcz9_1
          try clear hcz9_2
          try clear hfz11_0
          try clear hfz11_1
          try clear hfz11_2
          try clear hfz18_0
          try clear hfz18_1
          try clear hfz22_0
          try clear hfz22_1
          try clear hfz24_0
          try clear hfz24_1
          try clear hfz25_0
          try clear hfz25_1
          try clear hfz25_2
          try clear hfz4_0
          try clear hfz4_1
          try clear hfz4_2
          try clear hfz8_0
          try clear hfz8_1
          try clear hfz8_2
          try clear hfz9_0
          try clear hfz9_1
          try clear hfz9_2
          try clear hx168_0
          try clear hx168_1
          try clear p168
          try clear p2
          try clear q168
          obtain ⟨kq, x52_14, rfl, HA, HJ14, BK164, BK169, HB⟩ := hcut; cases kq with
          | zero => exact absurd HA.out (by simp [items_right.j2])
          | succ kj14 =>
           have H := HA.out; clear HA; simp only [items_right.j2] at H; by_cases c26 : x52_14 = true
           ·subst c26; have H1 : (some false) = some r := by rw [if_pos rfl] at H; exact H
            clear H; have H := H1; clear H1; obtain rfl := Option.some.inj H; go_wp2; go_ret; exact ⟨by first | rfl | (simp [errW_none, errW_some] <;> rfl) | (simp [*, errW_none, errW_some] <;> rfl), by repeat (first | (with_reducible first | exact HB.out | apply zac | apply zab | apply below_drew1 | refine zaf ?_ GE164.out | refine zaf ?_ GE169.out) | exact HB.out)⟩
           ·replace c26 := Bool.eq_false_iff.mpr c26; subst c26; have H1 : (items_right.l1 kj14 (l0_0.length : Int) l0_2 (l0_2.length : Int) x33_2 ((zal l0_2 x33_2).f1) (((zal l0_2 x33_2).f1).length : Int) 0 l0_0 l0_1 l0_2) = some r := by rw [if_neg (show ¬ (false = true) by decide)] at H; exact H
            clear H; have H := H1; clear H1; have H' := zaj.mk H; clear H; have hnb27 := NB169_164.out; have hnc27 := NB164_169.out; have hcz28_0 : wc.cell? ⟨gb169, 0, none⟩ = some (.int .i64 ((zal l0_2 x33_2).f0)) := (zaa BK169.out 0).trans rfl; have hcz28_1 : wc.cell? ⟨gb169, 1, none⟩ = some (.slice A168_1 ((zal l0_2 x33_2).f1).length c168_1) := (zaa BK169.out 1).trans rfl; have hfz28_0 := zae BK169.out 0; have hfz28_1 := zae BK169.out 1; go_wp2
            go_loopg [56] kj14 (fun kq v56 w' => ∃ (x56_4 : Int), v56 = .int .i64 x56_4 ∧ zaj (items_right.l1 kq (l0_0.length : Int) l0_2 (l0_2.length : Int) x33_2 ((zal l0_2 x33_2).f1) (((zal l0_2 x33_2).f1).length : Int) x56_4 l0_0 l0_1 l0_2 = some r) ∧ zaj (kq ≤ kj14) ∧ zaj (w'.heap[gb164]? = some (.cells #[(.slice A0_0 l0_0.length c0_0), (.slice A0_1 l0_1.length c0_1), (.slice (some ad168) l0_2.length c0_2)] 51 (0, 0))) ∧ zaj (w'.heap[gb169]? = some (.cells #[.int .i64 ((zal l0_2 x33_2).f0), (.slice A168_1 ((zal l0_2 x33_2).f1).length c168_1)] 77 (0, 0))) ∧ zaj (Below w.heap.size w w'))
            case atStart => exact ⟨(0), (by first | rfl | (simp; done) | (simp [*]; done)), H', ⟨Nat.le_refl _⟩, ⟨by (with_reducible repeat (first | apply zai | apply zah | apply zad)); exact BK164.out⟩, ⟨by (with_reducible repeat (first | apply zai | apply zah | apply zad)); exact BK169.out⟩, ⟨by repeat (first | (with_reducible first | exact HB.out | apply zac | apply zab | apply below_drew1 | refine zaf ?_ GE164.out | refine zaf ?_ GE169.out) | exact HB.out)⟩⟩
            case round =>
             clear H'
             try clear c1
             try clear p1
             try clear q1
             try clear hx1
             try clear c2
             try clear p2
             try clear c5
             try clear c5b0
             try clear c5b1
             try clear c6
             try clear c6b0
             try clear c6b1
             try clear c7
             try clear c7b0
             try clear c7b1
             try clear c10
             try clear c12
             try clear c12b0
             try clear c13
             try clear c13b0
             try clear c14
             try clear c14b0
             try clear c16
             try clear p16
             try clear q16
             try clear hx16
             try clear c17
             try clear c19
             try clear c19b0
             try clear c20
             try clear c20b0
             try clear c21
             try clear c23
             try clear c26
             try clear c27
             try clear hcz11_0
             try clear hcz11_1
             try clear hcz11_2
             try clear hcz18_0
             try clear hcz18_1
             try clear hcz22_0
             try clear hcz22_1
             try clear hcz24_0
             try clear hcz24_1
             try clear hcz25_0
             try clear hcz25_1
             try clear hcz25_2
             try clear hcz28_0
             try clear hcz28_1
             try clear hcz4_0
             try clear hcz4_1
             try clear hcz4_2
             try clear hcz8_0
             try clear hcz8_1
             try clear hcz8_2
             try clear hcz9_0
             try clear hcz9_1
             try clear hcz9_2
             try clear hfz11_0
             try clear hfz11_1
             try clear hfz11_2
             try clear hfz18_0
             try clear hfz18_1
             try clear hfz22_0
             try clear hfz22_1
             try clear hfz24_0
             try clear hfz24_1
             try clear hfz25_0
             try clear hfz25_1
             try clear hfz25_2
             try clear hfz28_0
             try clear hfz28_1
             try clear hfz4_0
             try clear hfz4_1
             try clear hfz4_2
             try clear hfz8_0
             try clear hfz8_1
             try clear hfz8_2
             try clear hfz9_0
             try clear hfz9_1
             try clear hfz9_2
             try clear hx168_0
             try clear hx168_1
             try clear p1
             try clear p16
             try clear p168
             try clear p2
             try clear q1
             try clear q16
             try clear q168
             obtain ⟨x56_4, rfl, HA, HK4, BK164, BK169, HB⟩ := hrel; cases gk with
             | zero => exact absurd HA.out (by simp [items_right.l1])
             | succ k4 =>
              have H := HA.out; clear HA; simp only [items_right.l1] at H; by_cases c29 : x56_4 < (((zal l0_2 x33_2).f1).length : Int)
              ·rw [if_pos c29] at H; have c29b0 : decide (x56_4 < (((zal l0_2 x33_2).f1).length : Int)) = true := decide_eq_true c29; clear c29; by_cases c30 : 0 ≤ x56_4
               ·rw [if_pos c30] at H; have c30b0 : decide (0 ≤ x56_4) = true := decide_eq_true c30; clear c30; by_cases c31 : x56_4 < (((zal l0_2 x33_2).f1).length : Int)
                ·rw [if_pos c31] at H; have c31b0 : decide (x56_4 < (((zal l0_2 x33_2).f1).length : Int)) = true := decide_eq_true c31; clear c31; by_cases c32 : ((zax ((zal l0_2 x33_2).f1) x56_4).f0) < 1
                 ·rw [if_pos c32] at H; have c32b0 : decide (((zax ((zal l0_2 x33_2).f1) x56_4).f0) < 1) = true := decide_eq_true c32; clear c32; obtain rfl := Option.some.inj H; have p170 : 0 ≤ (x56_4 : Int) := of_decide_eq_true (by first | (with_reducible assumption) | assumption)
                  have q170 : x56_4 < (((zal l0_2 x33_2).f1).length : Int) := of_decide_eq_true (by first | (with_reducible assumption) | assumption)
                  obtain ⟨ad170, e170, hx170_0, hx170_1, hx170_2⟩ := zbm HR168_1.out x56_4 p170 q170; cases e170; replace hx170_0 := (HB.out.cell (World.block_lt_of_cell? w _ hx170_0)).trans hx170_0; replace hx170_1 := (HB.out.cell (World.block_lt_of_cell? w _ hx170_1)).trans hx170_1; replace hx170_2 := (HB.out.cell (World.block_lt_of_cell? w _ hx170_2)).trans hx170_2; replace p170 := eq_true p170; replace q170 := eq_true q170
                  go_wp2_with (first | ((with_reducible refine zbg (N := 7) rfl ?_); (try (refine zaz (by rfl) ?_; dsimp only)); refine zbe ?hg (N := 7) ?hd (cs := #[.int .i64 0, .string (⟨#[]⟩ : ByteArray), .string (⟨#[]⟩ : ByteArray)]) (t := 110) ?hr ?_; (case hd => rfl); (case hg => rfl); (case hr => first | (go_simp; done) | (go_simp; rfl)); intro gb171 hg w33 hbox hb; have n0_ := zaj.mk (zak (g := gb164) (o := .cells #[.slice A0_0 l0_0.length c0_0, .slice A0_1 l0_1.length c0_1, .slice (some ad168) l0_2.length c0_2] 51 (0, 0)) (by (with_reducible repeat (first | apply zai | apply zah | apply zad)); exact BK164.out) hb); have n1_ := zaj.mk (zak (g := gb169) (o := .cells #[.int .i64 ((zal l0_2 x33_2).f0), .slice (some ad170) ((zal l0_2 x33_2).f1).length c168_1] 77 (0, 0)) (by (with_reducible repeat (first | apply zai | apply zah | apply zad)); exact BK169.out) hb); have n2_ := zaj.mk (zam (by repeat (first | (with_reducible first | exact HB.out | apply zac | apply zab | apply below_drew1 | refine zaf ?_ GE164.out | refine zaf ?_ GE169.out) | exact HB.out)) hb); have n3_ := zaj.mk (hbox); have n4_ := zaj.mk ((by rw [hg]; exact (zao (by repeat (first | (with_reducible first | exact HB.out | apply zac | apply zab | apply below_drew1 | refine zaf ?_ GE164.out | refine zaf ?_ GE169.out) | exact HB.out))) : w.heap.size ≤ gb171)); have n5_ := zaj.mk ((by rw [hg]; exact (zao (by repeat (first | (with_reducible first | exact HB.out | apply zac | apply zab | apply below_drew1 | refine zaf ?_ GE164.out | refine zaf ?_ GE169.out) | exact HB.out))) : w.heap.size ≤ gb171)); have n6_ := zaj.mk ((by rw [hg]; exact Nat.ne_of_lt (zba (g := gb164) (o := .cells #[.slice A0_0 l0_0.length c0_0, .slice A0_1 l0_1.length c0_1, .slice (some ad168) l0_2.length c0_2] 51 (0, 0)) (by (with_reducible repeat (first | apply zai | apply zah | apply zad)); exact BK164.out)) : gb164 ≠ gb171)); have n7_ := zaj.mk ((by rw [hg]; exact Nat.ne_of_gt (zba (g := gb164) (o := .cells #[.slice A0_0 l0_0.length c0_0, .slice A0_1 l0_1.length c0_1, .slice (some ad168) l0_2.length c0_2] 51 (0, 0)) (by (with_reducible repeat (first | apply zai | apply zah | apply zad)); exact BK164.out)) : gb171 ≠ gb164)); have n8_ := zaj.mk ((by rw [hg]; exact Nat.ne_of_lt (zba (g := gb169) (o := .cells #[.int .i64 ((zal l0_2 x33_2).f0), .slice (some ad170) ((zal l0_2 x33_2).f1).length c168_1] 77 (0, 0)) (by (with_reducible repeat (first | apply zai | apply zah | apply zad)); exact BK169.out)) : gb169 ≠ gb171)); have n9_ := zaj.mk ((by rw [hg]; exact Nat.ne_of_gt (zba (g := gb169) (o := .cells #[.int .i64 ((zal l0_2 x33_2).f0), .slice (some ad170) ((zal l0_2 x33_2).f1).length c168_1] 77 (0, 0)) (by (with_reducible repeat (first | apply zai | apply zah | apply zad)); exact BK169.out)) : gb171 ≠ gb169)); clear BK164; clear BK169; clear HB; have BK164 := n0_; have BK169 := n1_; have HB := n2_; have BK171 := n3_; have GW171 := n4_; have GE171 := n5_; have NB164_171 := n6_; have NB171_164 := n7_; have NB169_171 := n8_; have NB171_169 := n9_; clear n0_ n1_ n2_ n3_ n4_ n5_ n6_ n7_ n8_ n9_; clear hb hbox hg; have hnb34 := NB171_164.out; have hnc34 := NB164_171.out; have hnb35 := NB171_169.out; have hnc35 := NB169_171.out; have hcz36_0 : w33.cell? ⟨gb171, 0, none⟩ = some (.int .i64 0) := (zaa BK171.out 0).trans rfl; have hcz36_1 : w33.cell? ⟨gb171, 1, none⟩ = some (.string (⟨#[]⟩ : ByteArray)) := (zaa BK171.out 1).trans rfl; have hcz36_2 : w33.cell? ⟨gb171, 2, none⟩ = some (.string (⟨#[]⟩ : ByteArray)) := (zaa BK171.out 2).trans rfl; have hfz36_0 := zae BK171.out 0; have hfz36_1 := zae BK171.out 1; have hfz36_2 := zae BK171.out 2))
                  go_ret; exact ⟨by first | rfl | (simp [errW_none, errW_some] <;> rfl) | (simp [*, errW_none, errW_some] <;> rfl), by repeat (first | (with_reducible first | exact HB.out | apply zac | apply zab | apply below_drew1 | refine zaf ?_ GE164.out | refine zaf ?_ GE169.out | refine zaf ?_ GE171.out) | exact HB.out)⟩
                 ·rw [if_neg c32] at H; have c32b0 : decide (((zax ((zal l0_2 x33_2).f1) x56_4).f0) < 1) = false := decide_eq_false c32; clear c32; by_cases c37 : ((zax ((zal l0_2 x33_2).f1) x56_4).f0) ≥ (wrap64 ((l0_0.length : Int) + (l0_1.length : Int)))
                  ·rw [if_pos c37] at H; have c37b0 : decide ((wrap64 ((l0_0.length : Int) + (l0_1.length : Int))) ≤ ((zax ((zal l0_2 x33_2).f1) x56_4).f0)) = true := decide_eq_true c37; clear c37; obtain rfl := Option.some.inj H; have p170 : 0 ≤ (x56_4 : Int) := of_decide_eq_true (by first | (with_reducible assumption) | assumption)
                   have q170 : x56_4 < (((zal l0_2 x33_2).f1).length : Int) := of_decide_eq_true (by first | (with_reducible assumption) | assumption)
                   obtain ⟨ad170, e170, hx170_0, hx170_1, hx170_2⟩ := zbm HR168_1.out x56_4 p170 q170; cases e170; replace hx170_0 := (HB.out.cell (World.block_lt_of_cell? w _ hx170_0)).trans hx170_0; replace hx170_1 := (HB.out.cell (World.block_lt_of_cell? w _ hx170_1)).trans hx170_1; replace hx170_2 := (HB.out.cell (World.block_lt_of_cell? w _ hx170_2)).trans hx170_2; replace p170 := eq_true p170; replace q170 := eq_true q170
                   go_wp2_with (first | ((with_reducible refine zbg (N := 7) rfl ?_); (try (refine zaz (by rfl) ?_; dsimp only)); refine zbe ?hg (N := 7) ?hd (cs := #[.int .i64 0, .string (⟨#[]⟩ : ByteArray), .string (⟨#[]⟩ : ByteArray)]) (t := 110) ?hr ?_; (case hd => rfl); (case hg => rfl); (case hr => first | (go_simp; done) | (go_simp; rfl)); intro gb171 hg w38 hbox hb; have n0_ := zaj.mk (zak (g := gb164) (o := .cells #[.slice A0_0 l0_0.length c0_0, .slice A0_1 l0_1.length c0_1, .slice (some ad168) l0_2.length c0_2] 51 (0, 0)) (by (with_reducible repeat (first | apply zai | apply zah | apply zad)); exact BK164.out) hb); have n1_ := zaj.mk (zak (g := gb169) (o := .cells #[.int .i64 ((zal l0_2 x33_2).f0), .slice (some ad170) ((zal l0_2 x33_2).f1).length c168_1] 77 (0, 0)) (by (with_reducible repeat (first | apply zai | apply zah | apply zad)); exact BK169.out) hb); have n2_ := zaj.mk (zam (by repeat (first | (with_reducible first | exact HB.out | apply zac | apply zab | apply below_drew1 | refine zaf ?_ GE164.out | refine zaf ?_ GE169.out) | exact HB.out)) hb); have n3_ := zaj.mk (hbox); have n4_ := zaj.mk ((by rw [hg]; exact (zao (by repeat (first | (with_reducible first | exact HB.out | apply zac | apply zab | apply below_drew1 | refine zaf ?_ GE164.out | refine zaf ?_ GE169.out) | exact HB.out))) : w.heap.size ≤ gb171)); have n5_ := zaj.mk ((by rw [hg]; exact (zao (by repeat (first | (with_reducible first | exact HB.out | apply zac | apply zab | apply below_drew1 | refine zaf ?_ GE164.out | refine zaf ?_ GE169.out) | exact HB.out))) : w.heap.size ≤ gb171)); have n6_ := zaj.mk ((by rw [hg]; exact Nat.ne_of_lt (zba (g := gb164) (o := .cells #[.slice A0_0 l0_0.length c0_0, .slice A0_1 l0_1.length c0_1, .slice (some ad168) l0_2.length c0_2] 51 (0, 0)) (by (with_reducible repeat (first | apply zai | apply zah | apply zad)); exact BK164.out)) : gb164 ≠ gb171)); have n7_ := zaj.mk ((by rw [hg]; exact Nat.ne_of_gt (zba (g := gb164) (o := .cells #[.slice A0_0 l0_0.length c0_0, .slice A0_1 l0_1.length c0_1, .slice (some ad168) l0_2.length c0_2] 51 (0, 0)) (by (with_reducible repeat (first | apply zai | apply zah | apply zad)); exact BK164.out)) : gb171 ≠ gb164)); have n8_ := zaj.mk ((by rw [hg]; exact Nat.ne_of_lt (zba (g := gb169) (o := .cells #[.int .i64 ((zal l0_2 x33_2).f0), .slice (some ad170) ((zal l0_2 x33_2).f1).length c168_1] 77 (0, 0)) (by (with_reducible repeat (first | apply zai | apply zah | apply zad)); exact BK169.out)) : gb169 ≠ gb171)); have n9_ := zaj.mk ((by rw [hg]; exact Nat.ne_of_gt (zba (g := gb169) (o := .cells #[.int .i64 ((zal l0_2 x33_2).f0), .slice (some ad170) ((zal l0_2 x33_2).f1).length c168_1] 77 (0, 0)) (by (with_reducible repeat (first | apply zai | apply zah | apply zad)); exact BK169.out)) : gb171 ≠ gb169)); clear BK164; clear BK169; clear HB; have BK164 := n0_; have BK169 := n1_; have HB := n2_; have BK171 := n3_; have GW171 := n4_; have GE171 := n5_; have NB164_171 := n6_; have NB171_164 := n7_; have NB169_171 := n8_; have NB171_169 := n9_; clear n0_ n1_ n2_ n3_ n4_ n5_ n6_ n7_ n8_ n9_; clear hb hbox hg; have hnb39 := NB171_164.out; have hnc39 := NB164_171.out; have hnb40 := NB171_169.out; have hnc40 := NB169_171.out; have hcz41_0 : w38.cell? ⟨gb171, 0, none⟩ = some (.int .i64 0) := (zaa BK171.out 0).trans rfl; have hcz41_1 : w38.cell? ⟨gb171, 1, none⟩ = some (.string (⟨#[]⟩ : ByteArray)) := (zaa BK171.out 1).trans rfl; have hcz41_2 : w38.cell? ⟨gb171, 2, none⟩ = some (.string (⟨#[]⟩ : ByteArray)) := (zaa BK171.out 2).trans rfl; have hfz41_0 := zae BK171.out 0; have hfz41_1 := zae BK171.out 1; have hfz41_2 := zae BK171.out 2; have hnb42 := NB164_169.out; have hnc42 := NB169_164.out; have hcz43_0 : w38.cell? ⟨gb164, 0, none⟩ = some (.slice A0_0 l0_0.length c0_0) := (zaa BK164.out 0).trans rfl; have hcz43_1 : w38.cell? ⟨gb164, 1, none⟩ = some (.slice A0_1 l0_1.length c0_1) := (zaa BK164.out 1).trans rfl; have hcz43_2 : w38.cell? ⟨gb164, 2, none⟩ = some (.slice (some ad168) l0_2.length c0_2) := (zaa BK164.out 2).trans rfl; have hfz43_0 := zae BK164.out 0; have hfz43_1 := zae BK164.out 1; have hfz43_2 := zae BK164.out 2))
                   go_ret; exact ⟨by first | rfl | (simp [errW_none, errW_some] <;> rfl) | (simp [*, errW_none, errW_some] <;> rfl), by repeat (first | (with_reducible first | exact HB.out | apply zac | apply zab | apply below_drew1 | refine zaf ?_ GE164.out | refine zaf ?_ GE169.out | refine zaf ?_ GE171.out) | exact HB.out)⟩
                  ·rw [if_neg c37] at H; have c37b0 : decide ((wrap64 ((l0_0.length : Int) + (l0_1.length : Int))) ≤ ((zax ((zal l0_2 x33_2).f1) x56_4).f0)) = false := decide_eq_false c37; clear c37; have H' := zaj.mk H; clear H; have p170 : 0 ≤ (x56_4 : Int) := of_decide_eq_true (by first | (with_reducible assumption) | assumption)
                   have q170 : x56_4 < (((zal l0_2 x33_2).f1).length : Int) := of_decide_eq_true (by first | (with_reducible assumption) | assumption)
                   obtain ⟨ad170, e170, hx170_0, hx170_1, hx170_2⟩ := zbm HR168_1.out x56_4 p170 q170; cases e170; replace hx170_0 := (HB.out.cell (World.block_lt_of_cell? w _ hx170_0)).trans hx170_0; replace hx170_1 := (HB.out.cell (World.block_lt_of_cell? w _ hx170_1)).trans hx170_1; replace hx170_2 := (HB.out.cell (World.block_lt_of_cell? w _ hx170_2)).trans hx170_2; replace p170 := eq_true p170; replace q170 := eq_true q170
                   go_wp2_with (first | ((with_reducible refine zbg (N := 7) rfl ?_); (try (refine zaz (by rfl) ?_; dsimp only)); refine zbe ?hg (N := 7) ?hd (cs := #[.int .i64 0, .string (⟨#[]⟩ : ByteArray), .string (⟨#[]⟩ : ByteArray)]) (t := 110) ?hr ?_; (case hd => rfl); (case hg => rfl); (case hr => first | (go_simp; done) | (go_simp; rfl)); intro gb171 hg w44 hbox hb; have n0_ := zaj.mk (zak (g := gb164) (o := .cells #[.slice A0_0 l0_0.length c0_0, .slice A0_1 l0_1.length c0_1, .slice (some ad168) l0_2.length c0_2] 51 (0, 0)) (by (with_reducible repeat (first | apply zai | apply zah | apply zad)); exact BK164.out) hb); have n1_ := zaj.mk (zak (g := gb169) (o := .cells #[.int .i64 ((zal l0_2 x33_2).f0), .slice (some ad170) ((zal l0_2 x33_2).f1).length c168_1] 77 (0, 0)) (by (with_reducible repeat (first | apply zai | apply zah | apply zad)); exact BK169.out) hb); have n2_ := zaj.mk (zam (by repeat (first | (with_reducible first | exact HB.out | apply zac | apply zab | apply below_drew1 | refine zaf ?_ GE164.out | refine zaf ?_ GE169.out) | exact HB.out)) hb); have n3_ := zaj.mk (hbox); have n4_ := zaj.mk ((by rw [hg]; exact (zao (by repeat (first | (with_reducible first | exact HB.out | apply zac | apply zab | apply below_drew1 | refine zaf ?_ GE164.out | refine zaf ?_ GE169.out) | exact HB.out))) : w.heap.size ≤ gb171)); have n5_ := zaj.mk ((by rw [hg]; exact (zao (by repeat (first | (with_reducible first | exact HB.out | apply zac | apply zab | apply below_drew1 | refine zaf ?_ GE164.out | refine zaf ?_ GE169.out) | exact HB.out))) : w.heap.size ≤ gb171)); have n6_ := zaj.mk ((by rw [hg]; exact Nat.ne_of_lt (zba (g := gb164) (o := .cells #[.slice A0_0 l0_0.length c0_0, .slice A0_1 l0_1.length c0_1, .slice (some ad168) l0_2.length c0_2] 51 (0, 0)) (by (with_reducible repeat (first | apply zai | apply zah | apply zad)); exact BK164.out)) : gb164 ≠ gb171)); have n7_ := zaj.mk ((by rw [hg]; exact Nat.ne_of_gt (zba (g := gb164) (o := .cells #[.slice A0_0 l0_0.length c0_0, .slice A0_1 l0_1.length c0_1, .slice (some ad168) l0_2.length c0_2] 51 (0, 0)) (by (with_reducible repeat (first | apply zai | apply zah | apply zad)); exact BK164.out)) : gb171 ≠ gb164)); have n8_ := zaj.mk ((by rw [hg]; exact Nat.ne_of_lt (zba (g := gb169) (o := .cells #[.int .i64 ((zal l0_2 x33_2).f0), .slice (some ad170) ((zal l0_2 x33_2).f1).length c168_1] 77 (0, 0)) (by (with_reducible repeat (first | apply zai | apply zah | apply zad)); exact BK169.out)) : gb169 ≠ gb171)); have n9_ := zaj.mk ((by rw [hg]; exact Nat.ne_of_gt (zba (g := gb169) (o := .cells #[.int .i64 ((zal l0_2 x33_2).f0), .slice (some ad170) ((zal l0_2 x33_2).f1).length c168_1] 77 (0, 0)) (by (with_reducible repeat (first | apply zai | apply zah | apply zad)); exact BK169.out)) : gb171 ≠ gb169)); clear BK164; clear BK169; clear HB; have BK164 := n0_; have BK169 := n1_; have HB := n2_; have BK171 := n3_; have GW171 := n4_; have GE171 := n5_; have NB164_171 := n6_; have NB171_164 := n7_; have NB169_171 := n8_; have NB171_169 := n9_; clear n0_ n1_ n2_ n3_ n4_ n5_ n6_ n7_ n8_ n9_; clear hb hbox hg; have hnb45 := NB171_164.out; have hnc45 := NB164_171.out; have hnb46 := NB171_169.out; have hnc46 := NB169_171.out; have hcz47_0 : w44.cell? ⟨gb171, 0, none⟩ = some (.int .i64 0) := (zaa BK171.out 0).trans rfl; have hcz47_1 : w44.cell? ⟨gb171, 1, none⟩ = some (.string (⟨#[]⟩ : ByteArray)) := (zaa BK171.out 1).trans rfl; have hcz47_2 : w44.cell? ⟨gb171, 2, none⟩ = some (.string (⟨#[]⟩ : ByteArray)) := (zaa BK171.out 2).trans rfl; have hfz47_0 := zae BK171.out 0; have hfz47_1 := zae BK171.out 1; have hfz47_2 := zae BK171.out 2; have hnb48 := NB164_169.out; have hnc48 := NB169_164.out; have hcz49_0 : w44.cell? ⟨gb164, 0, none⟩ = some (.slice A0_0 l0_0.length c0_0) := (zaa BK164.out 0).trans rfl; have hcz49_1 : w44.cell? ⟨gb164, 1, none⟩ = some (.slice A0_1 l0_1.length c0_1) := (zaa BK164.out 1).trans rfl; have hcz49_2 : w44.cell? ⟨gb164, 2, none⟩ = some (.slice (some ad168) l0_2.length c0_2) := (zaa BK164.out 2).trans rfl; have hfz49_0 := zae BK164.out 0; have hfz49_1 := zae BK164.out 1; have hfz49_2 := zae BK164.out 2))
                   go_roundg k4
                   case measure => have := HJ1.out; have := HK2.out; have := HJ14.out; have := HK4.out; omega
                   case rel => exact ⟨(wrap64 (x56_4 + 1)), (by first | rfl | (simp; done) | (simp [*]; done)), H', ⟨by have := HJ1.out; have := HK2.out; have := HJ14.out; have := HK4.out; omega⟩, ⟨by (with_reducible repeat (first | apply zai | apply zah | apply zad)); refine zar ?_ NB164_171.out _; (with_reducible repeat (first | apply zai | apply zah | apply zad)); refine zar ?_ NB164_171.out _; (with_reducible repeat (first | apply zai | apply zah | apply zad)); refine zar ?_ NB164_171.out _; (with_reducible repeat (first | apply zai | apply zah | apply zad)); exact BK164.out⟩, ⟨by (with_reducible repeat (first | apply zai | apply zah | apply zad)); refine zar ?_ NB169_171.out _; (with_reducible repeat (first | apply zai | apply zah | apply zad)); refine zar ?_ NB169_171.out _; (with_reducible repeat (first | apply zai | apply zah | apply zad)); refine zar ?_ NB169_171.out _; (with_reducible repeat (first | apply zai | apply zah | apply zad)); exact BK169.out⟩, ⟨by repeat (first | (with_reducible first | exact HB.out | apply zac | apply zab | apply below_drew1 | refine zaf ?_ GE164.out | refine zaf ?_ GE169.out | refine zaf ?_ GE171.out) | exact HB.out)⟩⟩
                ·rw [if_neg c31] at H; exact absurd H (by simp)
               ·rw [if_neg c30] at H; exact absurd H (by simp)
              ·rw [if_neg c29] at H; have c29b0 : decide (x56_4 < (((zal l0_2 x33_2).f1).length : Int)) = false := decide_eq_false c29; clear c29; have H' := zaj.mk H; clear H; go_wp2
               go_roundg k4
               case measure => have := HJ1.out; have := HK2.out; have := HJ14.out; have := HK4.out; omega
               case rel => exact ⟨(wrap64 (x33_2 + 1)), (by first | rfl | (simp; done) | (simp [*]; done)), H', ⟨by have := HJ1.out; have := HK2.out; have := HJ14.out; have := HK4.out; omega⟩, ⟨by (with_reducible repeat (first | apply zai | apply zah | apply zad)); exact BK164.out⟩, ⟨by repeat (first | (with_reducible first | exact HB.out | apply zac | apply zab | apply below_drew1 | refine zaf ?_ GE164.out | refine zaf ?_ GE169.out) | exact HB.out)⟩⟩
        ·rw [if_neg c14] at H; exact absurd H (by simp)
       ·rw [if_neg c13] at H; exact absurd H (by simp)
      ·rw [if_neg c12] at H; have c12b0 : decide (x33_2 < (l0_2.length : Int)) = false := decide_eq_false c12; clear c12; by_cases c50 : 0 < (l0_2.length : Int)
       ·rw [if_pos c50] at H; have c50b0 : decide (0 < (l0_2.length : Int)) = true := decide_eq_true c50; have c50b1 : decide (0 < l0_2.length) = true := decide_eq_true (by omega)
        clear c50; by_cases c51 : ((zal l0_2 0).f0) = (-1)
        ·rw [if_pos c51] at H; have c51b0 : (((zal l0_2 0).f0) == (-1)) = true := beq_iff_eq.mpr c51; have c51b1 : (((zal l0_2 0).f0) != (-1)) = false := bne_eq_false_iff_eq.mpr c51; clear c51; by_cases c52 : (((zal l0_2 0).f1).length : Int) = 1
         ·rw [if_pos c52] at H; have c52b0 : ((((zal l0_2 0).f1).length : Int) == 1) = true := beq_iff_eq.mpr c52; have c52b1 : ((((zal l0_2 0).f1).length : Int) != 1) = false := bne_eq_false_iff_eq.mpr c52; clear c52; by_cases c53 : 0 < (((zal l0_2 0).f1).length : Int)
          ·rw [if_pos c53] at H; have c53b0 : decide (0 < (((zal l0_2 0).f1).length : Int)) = true := decide_eq_true c53; have c53b1 : decide (0 < ((zal l0_2 0).f1).length) = true := decide_eq_true (by omega)
           clear c53; obtain rfl := Option.some.inj H; have hcz54_0 : wr.cell? ⟨gb164, 0, none⟩ = some (.slice A0_0 l0_0.length c0_0) := (zaa BK164.out 0).trans rfl; have hcz54_1 : wr.cell? ⟨gb164, 1, none⟩ = some (.slice A0_1 l0_1.length c0_1) := (zaa BK164.out 1).trans rfl; have hcz54_2 : wr.cell? ⟨gb164, 2, none⟩ = some (.slice A0_2 l0_2.length c0_2) := (zaa BK164.out 2).trans rfl; have hfz54_0 := zae BK164.out 0; have hfz54_1 := zae BK164.out 1; have hfz54_2 := zae BK164.out 2; have p165 : 0 ≤ (0 : Int) := (by omega)
           have q165 : 0 < (l0_2.length : Int) := of_decide_eq_true (by first | (with_reducible assumption) | assumption)
           obtain ⟨ad165, A165_1, c165_1, e165, hx165_0, hx165_1, hl165_1, hi165_1⟩ := at_T77 HR0_2.out 0 p165 q165; cases e165; have qi165 : (0 < l0_2.length) = True := eq_true (by omega)
           (try rw [show ((0 : Int)).toNat = 0 from rfl] at hx165_0)
           (try rw [show 0 * 2 = 0 from rfl] at hx165_0)
           (try rw [Addr.add_zero'] at hx165_0)
           (try rw [show ((0 : Int)).toNat = 0 from rfl] at hx165_1)
           (try rw [show 0 * 2 = 0 from rfl] at hx165_1)
           (try rw [Addr.add_zero'] at hx165_1)
           replace hx165_0 := (HB.out.cell (World.block_lt_of_cell? w _ hx165_0)).trans hx165_0; replace hx165_1 := (HB.out.cell (World.block_lt_of_cell? w _ hx165_1)).trans hx165_1; have HR165_1 := zaj.mk hi165_1; have HC165_1 := zaj.mk hl165_1; clear hi165_1 hl165_1; replace p165 := eq_true p165; replace q165 := eq_true q165
           go_wp2_with (first | ((with_reducible refine zbg (N := 8) rfl ?_); (try (refine zaz (by rfl) ?_; dsimp only)); refine zbe ?hg (N := 8) ?hd (cs := #[.int .i64 0, .slice none 0 0]) (t := 77) ?hr ?_; (case hd => rfl); (case hg => rfl); (case hr => first | (go_simp; done) | (go_simp; rfl)); intro gb166 hg w55 hbox hb; have n0_ := zaj.mk (zak (g := gb164) (o := .cells #[.slice A0_0 l0_0.length c0_0, .slice A0_1 l0_1.length c0_1, .slice (some ad165) l0_2.length c0_2] 51 (0, 0)) (by (with_reducible repeat (first | apply zai | apply zah | apply zad)); exact BK164.out) hb); have n1_ := zaj.mk (zam (by repeat (first | (with_reducible first | exact HB.out | apply zac | apply zab | apply below_drew1 | refine zaf ?_ GE164.out) | exact HB.out)) hb); have n2_ := zaj.mk (hbox); have n3_ := zaj.mk ((by rw [hg]; exact (zao (by repeat (first | (with_reducible first | exact HB.out | apply zac | apply zab | apply below_drew1 | refine zaf ?_ GE164.out) | exact HB.out))) : w.heap.size ≤ gb166)); have n4_ := zaj.mk ((by rw [hg]; exact (zao (by repeat (first | (with_reducible first | exact HB.out | apply zac | apply zab | apply below_drew1 | refine zaf ?_ GE164.out) | exact HB.out))) : w.heap.size ≤ gb166)); have n5_ := zaj.mk ((by rw [hg]; exact Nat.ne_of_lt (zba (g := gb164) (o := .cells #[.slice A0_0 l0_0.length c0_0, .slice A0_1 l0_1.length c0_1, .slice (some ad165) l0_2.length c0_2] 51 (0, 0)) (by (with_reducible repeat (first | apply zai | apply zah | apply zad)); exact BK164.out)) : gb164 ≠ gb166)); have n6_ := zaj.mk ((by rw [hg]; exact Nat.ne_of_gt (zba (g := gb164) (o := .cells #[.slice A0_0 l0_0.length c0_0, .slice A0_1 l0_1.length c0_1, .slice (some ad165) l0_2.length c0_2] 51 (0, 0)) (by (with_reducible repeat (first | apply zai | apply zah | apply zad)); exact BK164.out)) : gb166 ≠ gb164)); clear BK164; clear HB; have BK164 := n0_; have HB := n1_; have BK166 := n2_; have GW166 := n3_; have GE166 := n4_; have NB164_166 := n5_; have NB166_164 := n6_; clear n0_ n1_ n2_ n3_ n4_ n5_ n6_; clear hb hbox hg; have hnb56 := NB166_164.out; have hnc56 := NB164_166.out; have hcz57_0 : w55.cell? ⟨gb166, 0, none⟩ = some (.int .i64 0) := (zaa BK166.out 0).trans rfl; have hcz57_1 : w55.cell? ⟨gb166, 1, none⟩ = some (.slice none 0 0) := (zaa BK166.out 1).trans rfl; have hfz57_0 := zae BK166.out 0; have hfz57_1 := zae BK166.out 1; have p167 : 0 ≤ (0 : Int) := (by omega); have q167 : 0 < (((zal l0_2 0).f1).length : Int) := of_decide_eq_true (by first | (with_reducible assumption) | assumption); obtain ⟨ad167, e167, hx167_0, hx167_1, hx167_2⟩ := zbm HR165_1.out 0 p167 q167; cases e167; have qi167 : (0 < ((zal l0_2 0).f1).length) = True := eq_true (by omega); (try rw [show ((0 : Int)).toNat = 0 from rfl] at hx167_0); (try rw [show 0 * 3 = 0 from rfl] at hx167_0); (try rw [Addr.add_zero'] at hx167_0); (try rw [show ((0 : Int)).toNat = 0 from rfl] at hx167_1); (try rw [show 0 * 3 = 0 from rfl] at hx167_1); (try rw [Addr.add_zero'] at hx167_1); (try rw [show ((0 : Int)).toNat = 0 from rfl] at hx167_2); (try rw [show 0 * 3 = 0 from rfl] at hx167_2); (try rw [Addr.add_zero'] at hx167_2); have hn167_0 : ad167.block ≠ gb166 := Nat.ne_of_lt (Nat.lt_of_lt_of_le (by have := World.block_lt_of_cell? _ _ hx167_0; first | rwa [add_block] at this | exact this) GW166.out); have hn167_1 : ad167.block ≠ gb166 := Nat.ne_of_lt (Nat.lt_of_lt_of_le (by have := World.block_lt_of_cell? _ _ hx167_0; first | rwa [add_block] at this | exact this) GW166.out); replace hx167_0 := (HB.out.cell (World.block_lt_of_cell? w _ hx167_0)).trans hx167_0; replace hx167_1 := (HB.out.cell (World.block_lt_of_cell? w _ hx167_1)).trans hx167_1; replace hx167_2 := (HB.out.cell (World.block_lt_of_cell? w _ hx167_2)).trans hx167_2; replace hx167_0 := (cell_far (p := ⟨gb166, 0, none⟩) (by first | (rw [add_block]; exact hn167_0) | (show (Addr.add _ _).block ≠ _; rw [add_block]; exact hn167_0) | exact hn167_0) (.int .i64 ((zal l0_2 0).f0))).trans hx167_0; replace hx167_1 := (cell_far (p := ⟨gb166, 0, none⟩) (by first | (rw [add_block]; exact hn167_0) | (show (Addr.add _ _).block ≠ _; rw [add_block]; exact hn167_0) | exact hn167_0) (.int .i64 ((zal l0_2 0).f0))).trans hx167_1; replace hx167_2 := (cell_far (p := ⟨gb166, 0, none⟩) (by first | (rw [add_block]; exact hn167_0) | (show (Addr.add _ _).block ≠ _; rw [add_block]; exact hn167_0) | exact hn167_0) (.int .i64 ((zal l0_2 0).f0))).trans hx167_2; replace hx167_0 := (cell_far (p := ⟨gb166, 1, none⟩) (by first | (rw [add_block]; exact hn167_1) | (show (Addr.add _ _).block ≠ _; rw [add_block]; exact hn167_1) | exact hn167_1) (.slice (some ad167) ((zal l0_2 0).f1).length c165_1)).trans hx167_0; replace hx167_1 := (cell_far (p := ⟨gb166, 1, none⟩) (by first | (rw [add_block]; exact hn167_1) | (show (Addr.add _ _).block ≠ _; rw [add_block]; exact hn167_1) | exact hn167_1) (.slice (some ad167) ((zal l0_2 0).f1).length c165_1)).trans hx167_1; replace hx167_2 := (cell_far (p := ⟨gb166, 1, none⟩) (by first | (rw [add_block]; exact hn167_1) | (show (Addr.add _ _).block ≠ _; rw [add_block]; exact hn167_1) | exact hn167_1) (.slice (some ad167) ((zal l0_2 0).f1).length c165_1)).trans hx167_2; clear hn167_0; clear hn167_1; replace p167 := eq_true p167; replace q167 := eq_true q167))
           go_ret; exact ⟨by first | rfl | (simp [errW_none, errW_some] <;> rfl) | (simp [*, errW_none, errW_some] <;> rfl), by repeat (first | (with_reducible first | exact HB.out | apply zac | apply zab | apply below_drew1 | refine zaf ?_ GE164.out | refine zaf ?_ GE166.out) | exact HB.out)⟩
          ·rw [if_neg c53] at H; exact absurd H (by simp)
         ·rw [if_neg c52] at H; have c52b0 : ((((zal l0_2 0).f1).length : Int) == 1) = false := beq_eq_false_iff_ne.mpr c52; have c52b1 : ((((zal l0_2 0).f1).length : Int) != 1) = true := bne_iff_ne.mpr c52; obtain rfl := Option.some.inj H; have hcz58_0 : wr.cell? ⟨gb164, 0, none⟩ = some (.slice A0_0 l0_0.length c0_0) := (zaa BK164.out 0).trans rfl; have hcz58_1 : wr.cell? ⟨gb164, 1, none⟩ = some (.slice A0_1 l0_1.length c0_1) := (zaa BK164.out 1).trans rfl; have hcz58_2 : wr.cell? ⟨gb164, 2, none⟩ = some (.slice A0_2 l0_2.length c0_2) := (zaa BK164.out 2).trans rfl; have hfz58_0 := zae BK164.out 0; have hfz58_1 := zae BK164.out 1; have hfz58_2 := zae BK164.out 2; have p165 : 0 ≤ (0 : Int) := (by omega)
          have q165 : 0 < (l0_2.length : Int) := of_decide_eq_true (by first | (with_reducible assumption) | assumption)
          obtain ⟨ad165, A165_1, c165_1, e165, hx165_0, hx165_1, hl165_1, hi165_1⟩ := at_T77 HR0_2.out 0 p165 q165; cases e165; have qi165 : (0 < l0_2.length) = True := eq_true (by omega)
          (try rw [show ((0 : Int)).toNat = 0 from rfl] at hx165_0)
          (try rw [show 0 * 2 = 0 from rfl] at hx165_0)
          (try rw [Addr.add_zero'] at hx165_0)
          (try rw [show ((0 : Int)).toNat = 0 from rfl] at hx165_1)
          (try rw [show 0 * 2 = 0 from rfl] at hx165_1)
          (try rw [Addr.add_zero'] at hx165_1)
          replace hx165_0 := (HB.out.cell (World.block_lt_of_cell? w _ hx165_0)).trans hx165_0; replace hx165_1 := (HB.out.cell (World.block_lt_of_cell? w _ hx165_1)).trans hx165_1; have HR165_1 := zaj.mk hi165_1; have HC165_1 := zaj.mk hl165_1; clear hi165_1 hl165_1; replace p165 := eq_true p165; replace q165 := eq_true q165
          go_wp2_with (first | ((with_reducible refine zbg (N := 8) rfl ?_); (try (refine zaz (by rfl) ?_; dsimp only)); refine zbe ?hg (N := 8) ?hd (cs := #[.int .i64 0, .slice none 0 0]) (t := 77) ?hr ?_; (case hd => rfl); (case hg => rfl); (case hr => first | (go_simp; done) | (go_simp; rfl)); intro gb166 hg w59 hbox hb; have n0_ := zaj.mk (zak (g := gb164) (o := .cells #[.slice A0_0 l0_0.length c0_0, .slice A0_1 l0_1.length c0_1, .slice (some ad165) l0_2.length c0_2] 51 (0, 0)) (by (with_reducible repeat (first | apply zai | apply zah | apply zad)); exact BK164.out) hb); have n1_ := zaj.mk (zam (by repeat (first | (with_reducible first | exact HB.out | apply zac | apply zab | apply below_drew1 | refine zaf ?_ GE164.out) | exact HB.out)) hb); have n2_ := zaj.mk (hbox); have n3_ := zaj.mk ((by rw [hg]; exact (zao (by repeat (first | (with_reducible first | exact HB.out | apply zac | apply zab | apply below_drew1 | refine zaf ?_ GE164.out) | exact HB.out))) : w.heap.size ≤ gb166)); have n4_ := zaj.mk ((by rw [hg]; exact (zao (by repeat (first | (with_reducible first | exact HB.out | apply zac | apply zab | apply below_drew1 | refine zaf ?_ GE164.out) | exact HB.out))) : w.heap.size ≤ gb166)); have n5_ := zaj.mk ((by rw [hg]; exact Nat.ne_of_lt (zba (g := gb164) (o := .cells #[.slice A0_0 l0_0.length c0_0, .slice A0_1 l0_1.length c0_1, .slice (some ad165) l0_2.length c0_2] 51 (0, 0)) (by (with_reducible repeat (first | apply zai | apply zah | apply zad)); exact BK164.out)) : gb164 ≠ gb166)); have n6_ := zaj.mk ((by rw [hg]; exact Nat.ne_of_gt (zba (g := gb164) (o := .cells #[.slice A0_0 l0_0.length c0_0, .slice A0_1 l0_1.length c0_1, .slice (some ad165) l0_2.length c0_2] 51 (0, 0)) (by (with_reducible repeat (first | apply zai | apply zah | apply zad)); exact BK164.out)) : gb166 ≠ gb164)); clear BK164; clear HB; have BK164 := n0_; have HB := n1_; have BK166 := n2_; have GW166 := n3_; have GE166 := n4_; have NB164_166 := n5_; have NB166_164 := n6_; clear n0_ n1_ n2_ n3_ n4_ n5_ n6_; clear hb hbox hg; have hnb60 := NB166_164.out; have hnc60 := NB164_166.out; have hcz61_0 : w59.cell? ⟨gb166, 0, none⟩ = some (.int .i64 0) := (zaa BK166.out 0).trans rfl; have hcz61_1 : w59.cell? ⟨gb166, 1, none⟩ = some (.slice none 0 0) := (zaa BK166.out 1).trans rfl; have hfz61_0 := zae BK166.out 0; have hfz61_1 := zae BK166.out 1))
          go_ret; exact ⟨by first | rfl | (simp [errW_none, errW_some] <;> rfl) | (simp [*, errW_none, errW_some] <;> rfl), by repeat (first | (with_reducible first | exact HB.out | apply zac | apply zab | apply below_drew1 | refine zaf ?_ GE164.out | refine zaf ?_ GE166.out) | exact HB.out)⟩
        ·rw [if_neg c51] at H; have c51b0 : (((zal l0_2 0).f0) == (-1)) = false := beq_eq_false_iff_ne.mpr c51; have c51b1 : (((zal l0_2 0).f0) != (-1)) = true := bne_iff_ne.mpr c51; obtain rfl := Option.some.inj H; have hcz62_0 : wr.cell? ⟨gb164, 0, none⟩ = some (.slice A0_0 l0_0.length c0_0) := (zaa BK164.out 0).trans rfl; have hcz62_1 : wr.cell? ⟨gb164, 1, none⟩ = some (.slice A0_1 l0_1.length c0_1) := (zaa BK164.out 1).trans rfl; have hcz62_2 : wr.cell? ⟨gb164, 2, none⟩ = some (.slice A0_2 l0_2.length c0_2) := (zaa BK164.out 2).trans rfl; have hfz62_0 := zae BK164.out 0; have hfz62_1 := zae BK164.out 1; have hfz62_2 := zae BK164.out 2; have p165 : 0 ≤ (0 : Int) := (by omega)
         have q165 : 0 < (l0_2.length : Int) := of_decide_eq_true (by first | (with_reducible assumption) | assumption)
         obtain ⟨ad165, A165_1, c165_1, e165, hx165_0, hx165_1, hl165_1, hi165_1⟩ := at_T77 HR0_2.out 0 p165 q165; cases e165; have qi165 : (0 < l0_2.length) = True := eq_true (by omega)
         (try rw [show ((0 : Int)).toNat = 0 from rfl] at hx165_0)
         (try rw [show 0 * 2 = 0 from rfl] at hx165_0)
         (try rw [Addr.add_zero'] at hx165_0)
         (try rw [show ((0 : Int)).toNat = 0 from rfl] at hx165_1)
         (try rw [show 0 * 2 = 0 from rfl] at hx165_1)
         (try rw [Addr.add_zero'] at hx165_1)
         replace hx165_0 := (HB.out.cell (World.block_lt_of_cell? w _ hx165_0)).trans hx165_0; replace hx165_1 := (HB.out.cell (World.block_lt_of_cell? w _ hx165_1)).trans hx165_1; have HR165_1 := zaj.mk hi165_1; have HC165_1 := zaj.mk hl165_1; clear hi165_1 hl165_1; replace p165 := eq_true p165; replace q165 := eq_true q165
         go_wp2_with (first | ((with_reducible refine zbg (N := 8) rfl ?_); (try (refine zaz (by rfl) ?_; dsimp only)); refine zbe ?hg (N := 8) ?hd (cs := #[.int .i64 0, .slice none 0 0]) (t := 77) ?hr ?_; (case hd => rfl); (case hg => rfl); (case hr => first | (go_simp; done) | (go_simp; rfl)); intro gb166 hg w63 hbox hb; have n0_ := zaj.mk (zak (g := gb164) (o := .cells #[.slice A0_0 l0_0.length c0_0, .slice A0_1 l0_1.length c0_1, .slice (some ad165) l0_2.length c0_2] 51 (0, 0)) (by (with_reducible repeat (first | apply zai | apply zah | apply zad)); exact BK164.out) hb); have n1_ := zaj.mk (zam (by repeat (first | (with_reducible first | exact HB.out | apply zac | apply zab | apply below_drew1 | refine zaf ?_ GE164.out) | exact HB.out)) hb); have n2_ := zaj.mk (hbox); have n3_ := zaj.mk ((by rw [hg]; exact (zao (by repeat (first | (with_reducible first | exact HB.out | apply zac | apply zab | apply below_drew1 | refine zaf ?_ GE164.out) | exact HB.out))) : w.heap.size ≤ gb166)); have n4_ := zaj.mk ((by rw [hg]; exact (zao (by repeat (first | (with_reducible first | exact HB.out | apply zac | apply zab | apply below_drew1 | refine zaf ?_ GE164.out) | exact HB.out))) : w.heap.size ≤ gb166)); have n5_ := zaj.mk ((by rw [hg]; exact Nat.ne_of_lt (zba (g := gb164) (o := .cells #[.slice A0_0 l0_0.length c0_0, .slice A0_1 l0_1.length c0_1, .slice (some ad165) l0_2.length c0_2] 51 (0, 0)) (by (with_reducible repeat (first | apply zai | apply zah | apply zad)); exact BK164.out)) : gb164 ≠ gb166)); have n6_ := zaj.mk ((by rw [hg]; exact Nat.ne_of_gt (zba (g := gb164) (o := .cells #[.slice A0_0 l0_0.length c0_0, .slice A0_1 l0_1.length c0_1, .slice (some ad165) l0_2.length c0_2] 51 (0, 0)) (by (with_reducible repeat (first | apply zai | apply zah | apply zad)); exact BK164.out)) : gb166 ≠ gb164)); clear BK164; clear HB; have BK164 := n0_; have HB := n1_; have BK166 := n2_; have GW166 := n3_; have GE166 := n4_; have NB164_166 := n5_; have NB166_164 := n6_; clear n0_ n1_ n2_ n3_ n4_ n5_ n6_; clear hb hbox hg; have hnb64 := NB166_164.out; have hnc64 := NB164_166.out; have hcz65_0 : w63.cell? ⟨gb166, 0, none⟩ = some (.int .i64 0) := (zaa BK166.out 0).trans rfl; have hcz65_1 : w63.cell? ⟨gb166, 1, none⟩ = some (.slice none 0 0) := (zaa BK166.out 1).trans rfl; have hfz65_0 := zae BK166.out 0; have hfz65_1 := zae BK166.out 1))
         go_ret; exact ⟨by first | rfl | (simp [errW_none, errW_some] <;> rfl) | (simp [*, errW_none, errW_some] <;> rfl), by repeat (first | (with_reducible first | exact HB.out | apply zac | apply zab | apply below_drew1 | refine zaf ?_ GE164.out | refine zaf ?_ GE166.out) | exact HB.out)⟩
       ·rw [if_neg c50] at H; exact absurd H (by simp)
end Go.Proofs.YtcijanmckhlpiaaDoor.PTableBuilds
