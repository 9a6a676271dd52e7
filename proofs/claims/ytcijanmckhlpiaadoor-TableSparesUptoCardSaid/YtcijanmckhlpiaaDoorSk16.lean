-- Texts of this seat, cut to what is used and merged (by shake.py).
import Derived.Test.YtcijanmckhlpiaaDoorSk0
import Derived.Test.YtcijanmckhlpiaaDoorSk1
import Derived.Test.YtcijanmckhlpiaaDoorSk2
import Derived.Test.YtcijanmckhlpiaaDoorSk15
import Derived.Test.YtcijanmckhlpiaaDoorProg
import Derived.Below
import Derived.Deep.Draws
import Derived.Deep.AppendLies
import Derived.Maps.AppendAt
import Derived.OwnWalk
import Derived.Laws.BytesArg
import Derived.Laws.MakeOwn
import Derived.Laws.OwnMore
import Derived.Deep.OwnRows
import Derived.Tactics
import Derived.Lib.ConvBytes
import Derived.Laws.Slices
import Derived.WalkKit
import Derived.KernelRfl
import Derived.RowKit3
import Derived.Deep.LoopGhost
import Derived.Deep.QuietTactic
import Derived.BigQuiet
import Derived.WideLaws
import Derived.Deep.DeepCutAuto
import Derived.Deep.CutBlock
import Derived.Deep.RegionHeld3
import Derived.Laws.Rows
import Derived.Lib.AppendStr
import Derived.ArgAppend
import Derived.Laws.IdiomCopy
import Derived.OrdersHeld
import Derived.Laws.BitsLemmas
import Derived.RowKit
set_option linter.unusedVariables false
set_option linter.unusedSimpArgs false
namespace Go.Proofs.YtcijanmckhlpiaaDoor.PTableBack
open Go.RowKit Go.Proofs.YtcijanmckhlpiaaDoorW.PrintWords Go.Proofs.YtcijanmckhlpiaaDoorW.PrintLast Go.Proofs.YtcijanmckhlpiaaDoorW.PrintMore
attribute [local go_sem] max2_int min2_int max_two min_two max_three min_three max_four min_four
theorem info5 : (Tryd.prog.info? 5).map (fun i => (i.zero, i.size, i.bytes)) = some (some (.int .u8 0), 1, 1) := by kernel_rfl
structure S93 where
 f0 : Int
 f1 : Int
def z93 : S93 := ⟨(0 : Int), (0 : Int)⟩
def k93 : Kd S93 := Kd.iso (Kd.pair (Kd.int .i64) (Kd.int .i64)) (fun x : S93 => (x.f0, x.f1))
theorem k93_open {w : World} {x : S93} {cs : List Value} (h : k93.K w x cs) : cs = [.int .i64 x.f0, .int .i64 x.f1] := by
 obtain ⟨_, _, rfl, rfl, rfl⟩ := h; exact rfl
theorem k93_mk (w : World) (x : S93)  : k93.K w x [.int .i64 x.f0, .int .i64 x.f1] := ⟨[.int .i64 x.f0], [.int .i64 x.f1], rfl, rfl, rfl⟩
def rd_T93 (xs : List S93) (i : Int) : S93 := xs.getD i.toNat z93
theorem at_T93 {w : World} {A : Option Addr} {n : Nat} {xs : List S93} (h : Kd.C k93 w A n xs) (i : Int) (h0 : 0 ≤ i) (h1 : i < n) : ∃ ad , A = some ad ∧ w.cell? (ad.add (i.toNat * 2)) = some (.int .i64 (rd_T93 xs i).f0) ∧ w.cell? ⟨(ad.add (i.toNat * 2)).block, (ad.add (i.toNat * 2)).off + 1, none⟩ = some (.int .i64 (rd_T93 xs i).f1) := by
 obtain ⟨ad, c, e, _, hK, hc0⟩ := Kd.C_get h z93 i h0 h1; have hc : ∀ j u, c[j]? = some u → w.cell? (ad.add (i.toNat * 2 + j)) = some u := hc0; obtain rfl := k93_open hK; exact ⟨ad, e, hc 0 _ rfl, by rw [← add_field _ _ 1 (by omega)]; exact hc 1 _ rfl⟩
def rd_L2 (xs : List (List S93)) (i : Int) : (List S93) := xs.getD i.toNat ([] : List S93)
theorem at_L2 {w : World} {A : Option Addr} {n : Nat} {xs : List (List S93)} (h : Kd.C (Kd.slice 93 k93) w A n xs) (i : Int) (h0 : 0 ≤ i) (h1 : i < n) : ∃ ad A0 c0, A = some ad ∧ w.cell? (ad.add i.toNat) = some (.slice A0 (rd_L2 xs i).length c0) ∧ (rd_L2 xs i).length ≤ c0 ∧ k93.C w A0 (rd_L2 xs i).length (rd_L2 xs i) := by
 obtain ⟨ad, c, e, _, hK, hc0⟩ := Kd.C_get h ([] : List S93) i h0 h1; have hc : ∀ j u, c[j]? = some u → w.cell? (ad.add (i.toNat * 1 + j)) = some u := hc0; obtain ⟨A0, c0, rfl, l0, g0⟩ := hK; exact ⟨ad, A0, c0, e, by have hq := hc 0 _ rfl; rwa [Nat.mul_one, Nat.add_zero] at hq, l0, g0⟩
def rd_L3 (xs : List (List Int)) (i : Int) : (List Int) := xs.getD i.toNat ([] : List Int)
theorem at_L3 {w : World} {A : Option Addr} {n : Nat} {xs : List (List Int)} (h : Kd.C (Kd.slice 3 (Kd.int .i64)) w A n xs) (i : Int) (h0 : 0 ≤ i) (h1 : i < n) : ∃ ad A0 c0, A = some ad ∧ w.cell? (ad.add i.toNat) = some (.slice A0 (rd_L3 xs i).length c0) ∧ (rd_L3 xs i).length ≤ c0 ∧ (Kd.int .i64).C w A0 (rd_L3 xs i).length (rd_L3 xs i) := by
 obtain ⟨ad, c, e, _, hK, hc0⟩ := Kd.C_get h ([] : List Int) i h0 h1; have hc : ∀ j u, c[j]? = some u → w.cell? (ad.add (i.toNat * 1 + j)) = some u := hc0; obtain ⟨A0, c0, rfl, l0, g0⟩ := hK; exact ⟨ad, A0, c0, e, by have hq := hc 0 _ rfl; rwa [Nat.mul_one, Nat.add_zero] at hq, l0, g0⟩
attribute [local go_sem] max2_int min2_int max_two min_two max_three min_three max_four min_four
theorem eqA93 (d : Nat) (w : World) (x0 y0 : Int) (x1 y1 : Int) :
  (Op.equalIn (d + 2) 93 (.agg #[.int .i64 x0, .int .i64 x1]) (.agg #[.int .i64 y0, .int .i64 y1])).run Tryd.prog w = .ok (x0 == y0 && (x1 == y1)) w := by
 refine eqA_of Tryd.underlying93 (by kernel_rfl) ?_
 refine eqf_cons (by rfl) (by go_simp; rfl) (by go_simp; rfl) (by go_simp) ?_
 exact eqf_last (by rfl) (by go_simp; rfl) (by go_simp; rfl) (by go_simp)
end Go.Proofs.YtcijanmckhlpiaaDoor.PTableBack
namespace Go.Proofs.YtcijanmckhlpiaaDoor
open Go.RowKit Go.Proofs.YtcijanmckhlpiaaDoorW.PrintWords Go.Proofs.YtcijanmckhlpiaaDoorW.PrintLast Go.Proofs.YtcijanmckhlpiaaDoorW.PrintMore
namespace Dec
def within (s : ByteArray) (lo hi : Int) (p : Nat) : Option (Int × Nat) := (num s p).bind fun r => if lo ≤ r.1 ∧ r.1 ≤ hi then some r else none
def IsBad (w w' : World) (p : Nat) (ev : Value) : Prop := ∃ b, w.heap.size ≤ b ∧ ev = .iface 78 (.pointer (some ⟨b, 0, none⟩)) ∧ w'.heap[b]? = some (.cells #[.int .i64 131, .int .i64 (p : Int)] 80 (0, 0))
def WithinE (o : Option (Int × Nat)) (w w' : World) (p : Nat) (e : Ending) (q : Nat) : Prop := match o with
 | some r => e = .returned (.tuple #[.int .i64 r.1, .nilIface]) ∧ q = r.2
 | none => ∃ ev, e = .returned (.tuple #[.int .i64 0, ev]) ∧ IsBad w w' p ev
theorem within_bound {s : ByteArray} {lo hi : Int} {p : Nat} {r : Int × Nat} (h : within s lo hi p = some r) : lo ≤ r.1 ∧ r.1 ≤ hi ∧ p < r.2 ∧ r.2 ≤ s.size := by
 unfold within at h; rcases hn : num s p with _ | x
 ·rw [hn] at h; cases h
 ·rw [hn] at h; simp only [Option.bind_some] at h
  split at h
  ·cases h; have := num_bound hn; exact ⟨by omega, by omega, this.2.2.1, this.2.2.2⟩
  ·cases h
theorem Rel.alloc {w0 w W : World} {g q : Nat} {s : ByteArray} (h : Rel w0 w W g s q) (o : Obj) : Rel w0 w (W.alloc o) g s q :=
 ⟨h.is.below (zab (Below.refl _ _) o), zam h.below (zab (Below.refl _ _) o), keep_alloc h.keep o⟩
theorem Rel.size {w0 w W : World} {g q : Nat} {s : ByteArray} (h : Rel w0 w W g s q) : w.heap.size ≤ W.heap.size := h.keep.1
set_option maxRecDepth 100000 in
set_option maxHeartbeats 4000000 in
theorem within_any (s : ByteArray) (g p : Nat) (lo hi : Int) (w0 w : World) (hI : IsR w0 w g s p) (hB : Below w0.heap.size w0 w) (hs : s.size ≤ 140737488351232) (hp : p ≤ s.size) :
  Calls Tryd.prog 48 #[.pointer (some ⟨g, 0, none⟩), .int .i64 lo, .int .i64 hi] w fun e w' => ∃ q, q ≤ s.size ∧ Rel w0 w w' g s q ∧ WithinE (within s lo hi p) w w' p e q := by
 have hz1 := (zac hI.1 1); simp at hz1; have HN := Lib.hid (number_any s g p w0 w hI hB hs hp); clear hI hB
 go_enter Tryd.func48, Tryd.ntmps48
 go_wp2_with fail
 refine HN.out.mono ?_; rintro e w1 ⟨q, hq, hR, hN⟩; have HR := Lib.hid hR; clear hR hz1 HN; rcases hn : num s p with _ | ⟨n, qn⟩
 ·rw [hn] at hN; subst hN; have hw : within s lo hi p = none := by unfold within; rw [hn]; rfl
  have HW := Lib.hid hw; clear hw hn
  go_wp2_with (go_at_call 34; refine (Errs.is_count _ _).mono ?_; rintro e w' ⟨rfl, rfl⟩)
  go_ret2
  exact ⟨q, hq, HR.out.alloc _, by rw [HW.out]; exact ⟨_, rfl, _, HR.out.size, rfl, zav _ _⟩⟩
 ·rw [hn] at hN; obtain ⟨rfl, rfl⟩ := hN; have hb := num_bound hn; simp only at hb hq; by_cases hlo : n < lo
  ·have hw : within s lo hi p = none := by unfold within; rw [hn]; exact if_neg (by simp only; omega)
   have HW := Lib.hid hw; clear hw hn
   go_wp2_with (go_at_call 34; refine (Errs.is_nil _ _).mono ?_; rintro e w' ⟨rfl, rfl⟩)
   go_ret2
   exact ⟨q, hq, HR.out.alloc _, by rw [HW.out]; exact ⟨_, rfl, _, HR.out.size, rfl, zav _ _⟩⟩
  ·by_cases hhi : hi < n
   ·have hw : within s lo hi p = none := by unfold within; rw [hn]; exact if_neg (by simp only; omega)
    have HW := Lib.hid hw; clear hw hn
    go_wp2_with (go_at_call 34; refine (Errs.is_nil _ _).mono ?_; rintro e w' ⟨rfl, rfl⟩)
    go_ret2
    exact ⟨q, hq, HR.out.alloc _, by rw [HW.out]; exact ⟨_, rfl, _, HR.out.size, rfl, zav _ _⟩⟩
   ·have hw : within s lo hi p = some (n, q) := by unfold within; rw [hn]; exact if_pos (by simp only; omega)
    have HW := Lib.hid hw; clear hw hn
    go_wp2_with (go_at_call 34; refine (Errs.is_nil _ _).mono ?_; rintro e w' ⟨rfl, rfl⟩)
    go_ret2
    exact ⟨q, hq, HR.out, by rw [HW.out]; exact ⟨rfl, rfl⟩⟩
end Dec
end Go.Proofs.YtcijanmckhlpiaaDoor
namespace Go.Proofs.YtcijanmckhlpiaaDoor.PTableBack
open Go.RowKit Go.Proofs.YtcijanmckhlpiaaDoorW.PrintWords Go.Proofs.YtcijanmckhlpiaaDoorW.PrintLast Go.Proofs.YtcijanmckhlpiaaDoorW.PrintMore
attribute [local go_sem] max2_int min2_int max_two min_two max_three min_three max_four min_four
def table_fits.j0 : Nat → Int → Int → Bool → Int → Int → Option (Bool)
 | 0, _, _, _, _, _ => none
 | k + 1, x1, x6, x7, x104000, x104001 => if x7 = true then (some (x104001 == 0)) else (if x6 = 1 then (if x104001 ≥ 0 then (some (decide (x104001 < x1))) else (some false)) else (if x6 = 2 then (if x104001 ≥ 0 then (some (decide (x104001 < 256))) else (some false)) else (some false)))
def table_fits.f (k : Nat) (a0_0 : Int) (a0_1 : Int) (a1 : Int) : Option (Bool) := if a0_0 = 0 then (table_fits.j0 k a1 a0_0 (a0_0 == 0) a0_0 a0_1) else (table_fits.j0 k a1 a0_0 (a0_0 == 3) a0_0 a0_1)
set_option maxHeartbeats 8000000 in
set_option maxRecDepth 100000 in
theorem table_fits.calls (k : Nat) (a0_0 : Int) (a0_1 : Int) (a1 : Int) (r : Bool) (w : World) (h : table_fits.f k a0_0 a0_1 a1 = some r) :
  Calls Tryd.prog 77 #[.agg #[.int .i64 a0_0, .int .i64 a0_1], .int .i64 a1] w fun e w' => e = .returned (.bool r) ∧ Below w.heap.size w w' := by
 have hu93 := Tryd.underlying93; have HB := zaf.mk (Below.refl w.heap.size w); have H : (if a0_0 = 0 then (table_fits.j0 k a1 a0_0 (a0_0 == 0) a0_0 a0_1) else (table_fits.j0 k a1 a0_0 (a0_0 == 3) a0_0 a0_1)) = some r := h
 clear h; have HC3 := zaf.mk H; clear H
 go_enter Tryd.func77, Tryd.ntmps77
 go_upto_if 7 with (first | ((with_reducible refine zbb (N := 2) rfl ?_); refine zaz ?hg (N := 2) ?hd (cs := #[.int .i64 a0_0, .int .i64 a0_1]) (t := 93) ?hr ?_; (case hd => rfl); (case hg => rfl); (case hr => first | (go_simp; done) | (go_simp; rfl)); intro gb103 hg w4 hbox hb; have n0_ := zaf.mk (zam (by repeat (first | (with_reducible first | exact HB.out | apply zab | apply zaa | apply zah) | exact HB.out)) hb); have n1_ := zaf.mk (hbox); have n2_ := zaf.mk ((by rw [hg]; exact (zan (by repeat (first | (with_reducible first | exact HB.out | apply zab | apply zaa | apply zah) | exact HB.out))) : w.heap.size ≤ gb103)); have n3_ := zaf.mk ((by rw [hg]; exact (zan (by repeat (first | (with_reducible first | exact HB.out | apply zab | apply zaa | apply zah) | exact HB.out))) : w.heap.size ≤ gb103)); clear HB; have HB := n0_; have BK103 := n1_; have GW103 := n2_; have GE103 := n3_; clear n0_ n1_ n2_ n3_; clear hb hbox hg; have hcz5_0 : w4.cell? ⟨gb103, 0, none⟩ = some (.int .i64 a0_0) := (zac BK103.out 0).trans rfl; have hcz5_1 : w4.cell? ⟨gb103, 1, none⟩ = some (.int .i64 a0_1) := (zac BK103.out 1).trans rfl; have hfz5_0 := zak BK103.out 0; have hfz5_1 := zak BK103.out 1))
 (try simp only [Act.put, List.setIfInBounds_toArray, List.set_cons_zero, List.set_cons_succ])
 go_cut [7] (fun v7 wc => ∃ (kq : Nat) (x7_2 : Bool), v7 = .bool x7_2 ∧ zaf (table_fits.j0 kq a1 a0_0 x7_2 a0_0 a0_1 = some r) ∧ zaf (kq ≤ k) ∧ zaf (wc.heap[gb103]? = some (.cells #[.int .i64 a0_0, .int .i64 a0_1] 93 (0, 0))) ∧ zaf (Below w.heap.size w wc))
 case first =>
  have H := HC3.out; clear HC3; by_cases c6 : a0_0 = 0
  ·rw [if_pos c6] at H; have c6b0 : (a0_0 == 0) = true := beq_iff_eq.mpr c6; have c6b1 : (a0_0 != 0) = false := bne_eq_false_iff_eq.mpr c6; clear c6
   (first | rw [c6b0] | (simp only [i64_w, i32_w]; rw [c6b0]) | skip)
   have H' := zaf.mk H; clear H; go_wp2
   go_meet
   case rel => exact ⟨_, ((a0_0 == 0)), (by first | rfl | (simp; done) | (simp [*]; done)), H', ⟨by first | omega | exact Nat.le_refl _⟩, ⟨by (with_reducible repeat (first | apply zai | apply zaj | apply zad)); exact BK103.out⟩, ⟨by repeat (first | (with_reducible first | exact HB.out | apply zab | apply zaa | apply zah | refine zae ?_ GE103.out) | exact HB.out)⟩⟩
  ·rw [if_neg c6] at H; have c6b0 : (a0_0 == 0) = false := beq_eq_false_iff_ne.mpr c6; have c6b1 : (a0_0 != 0) = true := bne_iff_ne.mpr c6
   (first | rw [c6b0] | (simp only [i64_w, i32_w]; rw [c6b0]) | skip)
   have H' := zaf.mk H; clear H; go_wp2
   go_meet
   case rel => exact ⟨_, ((a0_0 == 3)), (by first | rfl | (simp; done) | (simp [*]; done)), H', ⟨by first | omega | exact Nat.le_refl _⟩, ⟨by (with_reducible repeat (first | apply zai | apply zaj | apply zad)); exact BK103.out⟩, ⟨by repeat (first | (with_reducible first | exact HB.out | apply zab | apply zaa | apply zah | refine zae ?_ GE103.out) | exact HB.out)⟩⟩
 case rest =>
  clear HC3
  try clear p2
  try clear c6
  try clear c6b0
  try clear c6b1
  try clear hcz5_0
  try clear hcz5_1
  try clear hfz5_0
  try clear hfz5_1
  obtain ⟨kq, x7_2, rfl, HA, HJ2, BK103, HB⟩ := hcut; cases kq with
  | zero => exact absurd HA.out (by simp [table_fits.j0])
  | succ kj2 =>
   have H := HA.out; clear HA; simp only [table_fits.j0] at H; by_cases c7 : x7_2 = true
   ·subst c7; have H1 : (some (a0_1 == 0)) = some r := by rw [if_pos rfl] at H; exact H
    clear H; have H := H1; clear H1; obtain rfl := Option.some.inj H; have hcz8_0 : wc.cell? ⟨gb103, 0, none⟩ = some (.int .i64 a0_0) := (zac BK103.out 0).trans rfl; have hcz8_1 : wc.cell? ⟨gb103, 1, none⟩ = some (.int .i64 a0_1) := (zac BK103.out 1).trans rfl; have hfz8_0 := zak BK103.out 0; have hfz8_1 := zak BK103.out 1; go_wp2; go_ret; exact ⟨by first | rfl | (simp [errW_none, errW_some] <;> rfl) | (simp [*, errW_none, errW_some] <;> rfl), by repeat (first | (with_reducible first | exact HB.out | apply zab | apply zaa | apply zah | refine zae ?_ GE103.out) | exact HB.out)⟩
   ·replace c7 := Bool.eq_false_iff.mpr c7; subst c7; have H1 : (if a0_0 = 1 then (if a0_1 ≥ 0 then (some (decide (a0_1 < a1))) else (some false)) else (if a0_0 = 2 then (if a0_1 ≥ 0 then (some (decide (a0_1 < 256))) else (some false)) else (some false))) = some r := by rw [if_neg (show ¬ (false = true) by decide)] at H; exact H
    clear H; have H := H1; clear H1; by_cases c9 : a0_0 = 1
    ·rw [if_pos c9] at H; have c9b0 : (a0_0 == 1) = true := beq_iff_eq.mpr c9; have c9b1 : (a0_0 != 1) = false := bne_eq_false_iff_eq.mpr c9; clear c9; by_cases c10 : a0_1 ≥ 0
     ·rw [if_pos c10] at H; have c10b0 : decide (0 ≤ a0_1) = true := decide_eq_true c10; clear c10; obtain rfl := Option.some.inj H; have hcz11_0 : wc.cell? ⟨gb103, 0, none⟩ = some (.int .i64 a0_0) := (zac BK103.out 0).trans rfl; have hcz11_1 : wc.cell? ⟨gb103, 1, none⟩ = some (.int .i64 a0_1) := (zac BK103.out 1).trans rfl; have hfz11_0 := zak BK103.out 0; have hfz11_1 := zak BK103.out 1; go_wp2; go_ret; exact ⟨by first | rfl | (simp [errW_none, errW_some] <;> rfl) | (simp [*, errW_none, errW_some] <;> rfl), by repeat (first | (with_reducible first | exact HB.out | apply zab | apply zaa | apply zah | refine zae ?_ GE103.out) | exact HB.out)⟩
     ·rw [if_neg c10] at H; have c10b0 : decide (0 ≤ a0_1) = false := decide_eq_false c10; clear c10; obtain rfl := Option.some.inj H; have hcz12_0 : wc.cell? ⟨gb103, 0, none⟩ = some (.int .i64 a0_0) := (zac BK103.out 0).trans rfl; have hcz12_1 : wc.cell? ⟨gb103, 1, none⟩ = some (.int .i64 a0_1) := (zac BK103.out 1).trans rfl; have hfz12_0 := zak BK103.out 0; have hfz12_1 := zak BK103.out 1; go_wp2; go_ret; exact ⟨by first | rfl | (simp [errW_none, errW_some] <;> rfl) | (simp [*, errW_none, errW_some] <;> rfl), by repeat (first | (with_reducible first | exact HB.out | apply zab | apply zaa | apply zah | refine zae ?_ GE103.out) | exact HB.out)⟩
    ·rw [if_neg c9] at H; have c9b0 : (a0_0 == 1) = false := beq_eq_false_iff_ne.mpr c9; have c9b1 : (a0_0 != 1) = true := bne_iff_ne.mpr c9; by_cases c13 : a0_0 = 2
     ·rw [if_pos c13] at H; have c13b0 : (a0_0 == 2) = true := beq_iff_eq.mpr c13; have c13b1 : (a0_0 != 2) = false := bne_eq_false_iff_eq.mpr c13; clear c13; by_cases c14 : a0_1 ≥ 0
      ·rw [if_pos c14] at H; have c14b0 : decide (0 ≤ a0_1) = true := decide_eq_true c14; clear c14; obtain rfl := Option.some.inj H; have hcz15_0 : wc.cell? ⟨gb103, 0, none⟩ = some (.int .i64 a0_0) := (zac BK103.out 0).trans rfl; have hcz15_1 : wc.cell? ⟨gb103, 1, none⟩ = some (.int .i64 a0_1) := (zac BK103.out 1).trans rfl; have hfz15_0 := zak BK103.out 0; have hfz15_1 := zak BK103.out 1; go_wp2; go_ret; exact ⟨by first | rfl | (simp [errW_none, errW_some] <;> rfl) | (simp [*, errW_none, errW_some] <;> rfl), by repeat (first | (with_reducible first | exact HB.out | apply zab | apply zaa | apply zah | refine zae ?_ GE103.out) | exact HB.out)⟩
      ·rw [if_neg c14] at H; have c14b0 : decide (0 ≤ a0_1) = false := decide_eq_false c14; clear c14; obtain rfl := Option.some.inj H; have hcz16_0 : wc.cell? ⟨gb103, 0, none⟩ = some (.int .i64 a0_0) := (zac BK103.out 0).trans rfl; have hcz16_1 : wc.cell? ⟨gb103, 1, none⟩ = some (.int .i64 a0_1) := (zac BK103.out 1).trans rfl; have hfz16_0 := zak BK103.out 0; have hfz16_1 := zak BK103.out 1; go_wp2; go_ret; exact ⟨by first | rfl | (simp [errW_none, errW_some] <;> rfl) | (simp [*, errW_none, errW_some] <;> rfl), by repeat (first | (with_reducible first | exact HB.out | apply zab | apply zaa | apply zah | refine zae ?_ GE103.out) | exact HB.out)⟩
     ·rw [if_neg c13] at H; have c13b0 : (a0_0 == 2) = false := beq_eq_false_iff_ne.mpr c13; have c13b1 : (a0_0 != 2) = true := bne_iff_ne.mpr c13; obtain rfl := Option.some.inj H; go_wp2; go_ret; exact ⟨by first | rfl | (simp [errW_none, errW_some] <;> rfl) | (simp [*, errW_none, errW_some] <;> rfl), by repeat (first | (with_reducible first | exact HB.out | apply zab | apply zaa | apply zah | refine zae ?_ GE103.out) | exact HB.out)⟩
end Go.Proofs.YtcijanmckhlpiaaDoor.PTableBack
namespace Go.Proofs.YtcijanmckhlpiaaDoor
open Go.RowKit Go.Proofs.YtcijanmckhlpiaaDoorW.PrintWords Go.Proofs.YtcijanmckhlpiaaDoorW.PrintLast Go.Proofs.YtcijanmckhlpiaaDoorW.PrintMore Go.Proofs.YtcijanmckhlpiaaDoor.PTableBack
namespace Dec
def actOf (n : Int) : S93 := if n = 0 then ⟨0, 0⟩ else if n = 1 then ⟨3, 0⟩ else if n % 2 = 0 then ⟨1, (n - 2) / 2⟩ else ⟨2, (n - 3) / 2⟩
def fitS (a : S93) (st : Int) : Bool := if a.f0 = 0 ∨ a.f0 = 3 then a.f1 == 0 else if a.f0 = 1 then decide (0 ≤ a.f1 ∧ a.f1 < st) else if a.f0 = 2 then decide (0 ≤ a.f1 ∧ a.f1 < 256) else false
def actS (s : ByteArray) (st : Int) (p : Nat) : Option (S93 × Nat) := (within s 0 4608 p).bind fun r => if fitS (actOf r.1) st = true then some (actOf r.1, r.2) else none
theorem fitS_big {n st : Int} (hn : 4099 < n) (hst : st ≤ 2048) : fitS (actOf n) st = false := by
 unfold actOf; rw [if_neg (by omega), if_neg (by omega)]
 split
 ·unfold fitS; simp; omega
 ·unfold fitS; simp; omega
theorem actS_less (s : ByteArray) (st : Int) (p : Nat) (hst : st ≤ 2048) : actS s st p = (within s 0 4099 p).bind fun r => if fitS (actOf r.1) st = true then some (actOf r.1, r.2) else none := by
 unfold actS within; rcases num s p with _ | ⟨n, q⟩
 ·rfl
 ·simp only [Option.bind_some]; by_cases h : n ≤ 4099
  ·by_cases h0 : 0 ≤ n
   ·rw [if_pos ⟨h0, by omega⟩, if_pos ⟨h0, h⟩]
   ·rw [if_neg (by omega), if_neg (by omega)]
  ·by_cases h1 : 0 ≤ n ∧ n ≤ 4608
   ·rw [if_pos h1, if_neg (by omega)]
    simp only [Option.bind_some, Option.bind_none]; rw [fitS_big (by omega) hst]
    rfl
   ·rw [if_neg h1, if_neg (by omega)]
theorem fits_f (k : Nat) (a : S93) (st : Int) : table_fits.f (k + 1) a.f0 a.f1 st = some (fitS a st) := by
 obtain ⟨x, y⟩ := a; simp only [table_fits.f, table_fits.j0]; unfold fitS; simp only; by_cases h0 : x = 0
 ·subst h0; simp
 ·by_cases h3 : x = 3
  ·subst h3; simp
  ·by_cases h1 : x = 1
   ·subst h1; by_cases hy : 0 ≤ y <;> simp [hy]
   ·by_cases h2 : x = 2
    ·subst h2; by_cases hy : 0 ≤ y <;> simp [hy]
    ·simp [h0, h1, h2, h3]
theorem Rel.far {w0 w W : World} {g q b j : Nat} {s : ByteArray} (h : Rel w0 w W g s q) (hl : w0.heap.size ≤ w.heap.size) (hg : g < w.heap.size) (hb : w.heap.size ≤ b) (u : Value) : Rel w0 w (W.setCell ⟨b, j, none⟩ u) g s q :=
 ⟨⟨zaq h.is.1 (by show g ≠ b; omega) u, h.is.2⟩, zae h.below (Nat.le_trans hl hb), keep_far h.keep hb u⟩
theorem Rel.trans {w0 w W W' : World} {g q q' : Nat} {s : ByteArray} (h : Rel w0 w W g s q) (k : Rel w0 W W' g s q') : Rel w0 w W' g s q' :=
 ⟨k.is, k.below, zbn.trans h.keep k.keep (.inl rfl)⟩
theorem Rel.call {w0 w W W' : World} {g q : Nat} {s : ByteArray} (h : Rel w0 w W g s q) (hb : Below W.heap.size W W') : Rel w0 w W' g s q :=
 ⟨h.is.below hb, zam h.below hb, zbn.trans h.keep (zbn.of_below hb g none) (.inl rfl)⟩
theorem IsBad.before {w w1 w2 : World} {p : Nat} {ev : Value} (h : IsBad w1 w2 p ev) (hs : w.heap.size ≤ w1.heap.size) : IsBad w w2 p ev := by
 obtain ⟨b, h1, h2, h3⟩ := h; exact ⟨b, by omega, h2, h3⟩
theorem IsBad.far {w W : World} {p k j : Nat} {ev : Value} (h : IsBad w W p ev) (hk : k < w.heap.size) (u : Value) : IsBad w (W.setCell ⟨k, j, none⟩ u) p ev := by
 obtain ⟨b, h1, h2, h3⟩ := h; exact ⟨b, h1, h2, zaq h3 (by show b ≠ k; omega) u⟩
theorem blk_new_set2 (w : World) (p1 p2 : Addr) (u1 u2 : Value) (o : Obj) : (((w.setCell p1 u1).setCell p2 u2).alloc o).heap[w.heap.size]? = some o := by
 have h := zav ((w.setCell p1 u1).setCell p2 u2) o
 simpa [World.setCell] using h
def ActE (o : Option (S93 × Nat)) (w w' : World) (p : Nat) (e : Ending) (q : Nat) : Prop := match o with
 | some r => e = .returned (.tuple #[.agg #[.int .i64 r.1.f0, .int .i64 r.1.f1], .nilIface]) ∧ q = r.2
 | none => ∃ ev, e = .returned (.tuple #[.agg #[.int .i64 0, .int .i64 0], ev]) ∧ IsBad w w' p ev
set_option maxRecDepth 100000 in
set_option maxHeartbeats 4000000 in
theorem action_any (s : ByteArray) (g p : Nat) (st : Int) (w0 w : World) (hI : IsR w0 w g s p) (hB : Below w0.heap.size w0 w) (hs : s.size ≤ 140737488351232) (hp : p ≤ s.size) (hst : st ≤ 2048) :
  Calls Tryd.prog 49 #[.pointer (some ⟨g, 0, none⟩), .int .i64 st] w fun e w' => ∃ q, q ≤ s.size ∧ Rel w0 w w' g s q ∧ ActE (actS s st p) w w' p e q := by
 have HR : Hid (Rel w0 w w g s p) := ⟨hI, hB, zbn.refl _ _ _⟩; have hgl : g < w.heap.size := zau hI.1; have hwl : w0.heap.size ≤ w.heap.size := hB.size; have HA := Lib.hid (actS_less s st p hst); have hz1 := (zac hI.1 1); simp at hz1; clear hI hB hst
 go_enter Tryd.func49, Tryd.ntmps49
 go_wp2_with fail
 have HR1 := Lib.hid (HR.out.alloc (.cells #[.int .i64 0, .int .i64 0] 93)); have HX := Lib.hid (zav w (.cells #[.int .i64 0, .int .i64 0] 93)); refine (within_any s g p 0 4099 w0 _ HR1.out.is HR1.out.below hs hp).mono ?_; rintro e w1 ⟨q, hq, hR, hW⟩; have HR2 := Lib.hid (HR1.out.trans hR); have HX1 := Lib.hid (hR.keep.blk HX.out (by omega) (by simp))
 have hsz1 := hR.size; rw [World.size_alloc] at hsz1; clear hR HR HR1 HX hz1; have hx0 := zac HX1.out 0; have hx1 := zac HX1.out 1; have hx2 := zak HX1.out 0; have hx3 := zak HX1.out 1; simp at hx0 hx1; rcases hw : within s 0 4099 p with _ | ⟨n, qn⟩
 ·rw [hw] at hW; obtain ⟨ev, rfl, hbad⟩ := hW; have hA := HA.out; rw [hw] at hA; have HA2 := Lib.hid hA; have HBad := Lib.hid hbad; clear hA hbad hw HA; obtain ⟨b, hb1, rfl, hb2⟩ := HBad.out; clear hb2
  go_wp2_with fail
  refine bodyPost_ret (zbm rfl _ _ w.heap.size 93 #[.int .i64 0, .int .i64 0] (0, 0) _ rfl (zar (cs := #[.int .i64 0, .int .i64 0]) (zar (cs := #[.int .i64 0, .int .i64 0]) HX1.out 0 _ rfl) 1 _ rfl) Tryd.underlying93 rfl (by kernel_rfl)) rfl ?_
  refine ⟨q, hq, (HR2.out.far hwl hgl (Nat.le_refl _) _).far hwl hgl (Nat.le_refl _) _, ?_⟩; rw [HA2.out]; refine ⟨_, rfl, ?_⟩; exact ((HBad.out.far (by rw [World.size_alloc]; omega) _).far (by rw [World.size_alloc]; omega) _).before (by rw [World.size_alloc]; omega)
 ·rw [hw] at hW; have hwb := within_bound hw; obtain ⟨rfl, rfl⟩ := hW; have hA := HA.out; rw [hw] at hA; have HA2 := Lib.hid hA; simp only at hwb; obtain ⟨hn0, hn1, hq1, hq2⟩ := hwb; clear hA hw HA; have hcs : n = 0 ∨ n = 1 ∨ (2 ≤ n ∧ n % 2 = 0) ∨ (3 ≤ n ∧ n % 2 = 1) := by omega
  have HF := fun W a => Lib.hid (table_fits.calls 1 a.f0 a.f1 st (fitS a st) W (fits_f 0 a st))
  rcases hcs with c0 | c1 | c2 | c2
  ·subst c0; have ha : actOf (0 : Int) = ⟨0, 0⟩ := by unfold actOf; rfl
   have hA := HA2.out; simp only [Option.bind_some] at hA; rw [ha] at hA; have HA3 := Lib.hid hA; clear hA ha; by_cases hf : fitS ⟨0, 0⟩ st = true
   ·have hA := HA3.out; rw [if_pos hf] at hA; have HA4 := Lib.hid hA; have HF2 := fun W => Lib.hid (HF W ⟨0, 0⟩).out
    rw [hf] at HF2; clear hA hf HF
    go_wp2_with fail
    refine (HF2 _).out.mono ?_; rintro e w2 ⟨rfl, hb⟩; have HR3 := Lib.hid ((HR2.out.alloc (.cells #[.int .i64 0, .int .i64 0] 93)).call hb); have HX2 := Lib.hid (zal (zad HX1.out (.cells #[.int .i64 0, .int .i64 0] 93)) hb); have HY2 := Lib.hid (zal (zav w1 (.cells #[.int .i64 0, .int .i64 0] 93)) hb); have hs2 := hb.size; rw [World.size_alloc] at hs2; have hlt : w.heap.size < w2.heap.size := by omega
    clear hb hx0 hx1 hx2 hx3; have hx0 := zac HX2.out 0; have hx1 := zac HX2.out 1; have hx2 := zak HX2.out 0; have hx3 := zak HX2.out 1; have hy0 := zac HY2.out 0; have hy1 := zac HY2.out 1; simp at hx0 hx1 hy0 hy1
    go_wp2_with fail
    refine bodyPost_ret (zbm rfl _ _ w.heap.size 93 #[.int .i64 0, .int .i64 0] (0, 0) _ rfl (zar (cs := #[.int .i64 0, .int .i64 0]) (zar (cs := #[.int .i64 0, .int .i64 0]) HX2.out 0 _ rfl) 1 _ rfl) Tryd.underlying93 rfl (by kernel_rfl)) rfl ?_
    exact ⟨q, hq, (HR3.out.far hwl hgl (Nat.le_refl _) _).far hwl hgl (Nat.le_refl _) _, by rw [HA4.out]; exact ⟨rfl, rfl⟩⟩
   ·have hA := HA3.out; rw [if_neg hf] at hA; replace hf := Bool.eq_false_iff.mpr hf; have HA4 := Lib.hid hA; have HF2 := fun W => Lib.hid (HF W ⟨0, 0⟩).out
    rw [hf] at HF2; clear hA hf HF
    go_wp2_with fail
    refine (HF2 _).out.mono ?_; rintro e w2 ⟨rfl, hb⟩; have HR3 := Lib.hid ((HR2.out.alloc (.cells #[.int .i64 0, .int .i64 0] 93)).call hb); have HX2 := Lib.hid (zal (zad HX1.out (.cells #[.int .i64 0, .int .i64 0] 93)) hb); have HY2 := Lib.hid (zal (zav w1 (.cells #[.int .i64 0, .int .i64 0] 93)) hb); have hs2 := hb.size; rw [World.size_alloc] at hs2; have hlt : w.heap.size < w2.heap.size := by omega
    clear hb hx0 hx1 hx2 hx3; have hx0 := zac HX2.out 0; have hx1 := zac HX2.out 1; have hx2 := zak HX2.out 0; have hx3 := zak HX2.out 1; have hy0 := zac HY2.out 0; have hy1 := zac HY2.out 1; simp at hx0 hx1 hy0 hy1
    go_wp2_with fail
    refine bodyPost_ret (zbm rfl _ _ w.heap.size 93 #[.int .i64 0, .int .i64 0] (0, 0) _ rfl (zad (zar (cs' := #[.int .i64 0, .int .i64 0]) (zar (cs' := #[.int .i64 0, .int .i64 0]) HX2.out 0 _ rfl) 1 _ rfl) _) Tryd.underlying93 rfl (by kernel_rfl)) rfl ?_
    exact ⟨q, hq, ((HR3.out.far hwl hgl (Nat.le_refl _) _).far hwl hgl (Nat.le_refl _) _).alloc _, by rw [HA4.out]; exact ⟨_, rfl, w2.heap.size, by omega, rfl, blk_new_set2 _ _ _ _ _ _⟩⟩
  ·subst c1; have ha : actOf (1 : Int) = ⟨3, 0⟩ := by unfold actOf; rfl
   have hA := HA2.out; simp only [Option.bind_some] at hA; rw [ha] at hA; have HA3 := Lib.hid hA; clear hA ha; by_cases hf : fitS ⟨3, 0⟩ st = true
   ·have hA := HA3.out; rw [if_pos hf] at hA; have HA4 := Lib.hid hA; have HF2 := fun W => Lib.hid (HF W ⟨3, 0⟩).out
    rw [hf] at HF2; clear hA hf HF
    go_wp2_with fail
    refine (HF2 _).out.mono ?_; rintro e w2 ⟨rfl, hb⟩; have HR3 := Lib.hid ((HR2.out.alloc (.cells #[.int .i64 3, .int .i64 0] 93)).call hb); have HX2 := Lib.hid (zal (zad HX1.out (.cells #[.int .i64 3, .int .i64 0] 93)) hb); have HY2 := Lib.hid (zal (zav w1 (.cells #[.int .i64 3, .int .i64 0] 93)) hb); have hs2 := hb.size; rw [World.size_alloc] at hs2; have hlt : w.heap.size < w2.heap.size := by omega
    clear hb hx0 hx1 hx2 hx3; have hx0 := zac HX2.out 0; have hx1 := zac HX2.out 1; have hx2 := zak HX2.out 0; have hx3 := zak HX2.out 1; have hy0 := zac HY2.out 0; have hy1 := zac HY2.out 1; simp at hx0 hx1 hy0 hy1
    go_wp2_with fail
    refine bodyPost_ret (zbm rfl _ _ w.heap.size 93 #[.int .i64 3, .int .i64 0] (0, 0) _ rfl (zar (cs := #[.int .i64 3, .int .i64 0]) (zar (cs := #[.int .i64 0, .int .i64 0]) HX2.out 0 _ rfl) 1 _ rfl) Tryd.underlying93 rfl (by kernel_rfl)) rfl ?_
    exact ⟨q, hq, (HR3.out.far hwl hgl (Nat.le_refl _) _).far hwl hgl (Nat.le_refl _) _, by rw [HA4.out]; exact ⟨rfl, rfl⟩⟩
   ·have hA := HA3.out; rw [if_neg hf] at hA; replace hf := Bool.eq_false_iff.mpr hf; have HA4 := Lib.hid hA; have HF2 := fun W => Lib.hid (HF W ⟨3, 0⟩).out
    rw [hf] at HF2; clear hA hf HF
    go_wp2_with fail
    refine (HF2 _).out.mono ?_; rintro e w2 ⟨rfl, hb⟩; have HR3 := Lib.hid ((HR2.out.alloc (.cells #[.int .i64 3, .int .i64 0] 93)).call hb); have HX2 := Lib.hid (zal (zad HX1.out (.cells #[.int .i64 3, .int .i64 0] 93)) hb); have HY2 := Lib.hid (zal (zav w1 (.cells #[.int .i64 3, .int .i64 0] 93)) hb); have hs2 := hb.size; rw [World.size_alloc] at hs2; have hlt : w.heap.size < w2.heap.size := by omega
    clear hb hx0 hx1 hx2 hx3; have hx0 := zac HX2.out 0; have hx1 := zac HX2.out 1; have hx2 := zak HX2.out 0; have hx3 := zak HX2.out 1; have hy0 := zac HY2.out 0; have hy1 := zac HY2.out 1; simp at hx0 hx1 hy0 hy1
    go_wp2_with fail
    refine bodyPost_ret (zbm rfl _ _ w.heap.size 93 #[.int .i64 0, .int .i64 0] (0, 0) _ rfl (zad (zar (cs' := #[.int .i64 0, .int .i64 0]) (zar (cs' := #[.int .i64 0, .int .i64 0]) HX2.out 0 _ rfl) 1 _ rfl) _) Tryd.underlying93 rfl (by kernel_rfl)) rfl ?_
    exact ⟨q, hq, ((HR3.out.far hwl hgl (Nat.le_refl _) _).far hwl hgl (Nat.le_refl _) _).alloc _, by rw [HA4.out]; exact ⟨_, rfl, w2.heap.size, by omega, rfl, blk_new_set2 _ _ _ _ _ _⟩⟩
  ·obtain ⟨c2, c3⟩ := c2; have c4 : (n == 0) = false := by simp; omega
   have c5 : (n == 1) = false := by simp; omega
   have ha : actOf n = ⟨1, (n - 2) / 2⟩ := by unfold actOf; rw [if_neg (by omega), if_neg (by omega), if_pos c3]
   have hA := HA2.out; simp only [Option.bind_some] at hA; rw [ha] at hA; have HA3 := Lib.hid hA; clear hA ha; by_cases hf : fitS ⟨1, (n - 2) / 2⟩ st = true
   ·have hA := HA3.out; rw [if_pos hf] at hA; have HA4 := Lib.hid hA; have HF2 := fun W => Lib.hid (HF W ⟨1, (n - 2) / 2⟩).out
    rw [hf] at HF2; clear hA hf HF
    go_wp2_with fail
    refine (HF2 _).out.mono ?_; rintro e w2 ⟨rfl, hb⟩; have HR3 := Lib.hid ((HR2.out.alloc (.cells #[.int .i64 1, .int .i64 ((n - 2) / 2)] 93)).call hb); have HX2 := Lib.hid (zal (zad HX1.out (.cells #[.int .i64 1, .int .i64 ((n - 2) / 2)] 93)) hb); have HY2 := Lib.hid (zal (zav w1 (.cells #[.int .i64 1, .int .i64 ((n - 2) / 2)] 93)) hb); have hs2 := hb.size; rw [World.size_alloc] at hs2; have hlt : w.heap.size < w2.heap.size := by omega
    clear hb hx0 hx1 hx2 hx3; have hx0 := zac HX2.out 0; have hx1 := zac HX2.out 1; have hx2 := zak HX2.out 0; have hx3 := zak HX2.out 1; have hy0 := zac HY2.out 0; have hy1 := zac HY2.out 1; simp at hx0 hx1 hy0 hy1
    go_wp2_with fail
    refine bodyPost_ret (zbm rfl _ _ w.heap.size 93 #[.int .i64 1, .int .i64 ((n - 2) / 2)] (0, 0) _ rfl (zar (cs := #[.int .i64 1, .int .i64 0]) (zar (cs := #[.int .i64 0, .int .i64 0]) HX2.out 0 _ rfl) 1 _ rfl) Tryd.underlying93 rfl (by kernel_rfl)) rfl ?_
    exact ⟨q, hq, (HR3.out.far hwl hgl (Nat.le_refl _) _).far hwl hgl (Nat.le_refl _) _, by rw [HA4.out]; exact ⟨rfl, rfl⟩⟩
   ·have hA := HA3.out; rw [if_neg hf] at hA; replace hf := Bool.eq_false_iff.mpr hf; have HA4 := Lib.hid hA; have HF2 := fun W => Lib.hid (HF W ⟨1, (n - 2) / 2⟩).out
    rw [hf] at HF2; clear hA hf HF
    go_wp2_with fail
    refine (HF2 _).out.mono ?_; rintro e w2 ⟨rfl, hb⟩; have HR3 := Lib.hid ((HR2.out.alloc (.cells #[.int .i64 1, .int .i64 ((n - 2) / 2)] 93)).call hb); have HX2 := Lib.hid (zal (zad HX1.out (.cells #[.int .i64 1, .int .i64 ((n - 2) / 2)] 93)) hb); have HY2 := Lib.hid (zal (zav w1 (.cells #[.int .i64 1, .int .i64 ((n - 2) / 2)] 93)) hb); have hs2 := hb.size; rw [World.size_alloc] at hs2; have hlt : w.heap.size < w2.heap.size := by omega
    clear hb hx0 hx1 hx2 hx3; have hx0 := zac HX2.out 0; have hx1 := zac HX2.out 1; have hx2 := zak HX2.out 0; have hx3 := zak HX2.out 1; have hy0 := zac HY2.out 0; have hy1 := zac HY2.out 1; simp at hx0 hx1 hy0 hy1
    go_wp2_with fail
    refine bodyPost_ret (zbm rfl _ _ w.heap.size 93 #[.int .i64 0, .int .i64 0] (0, 0) _ rfl (zad (zar (cs' := #[.int .i64 0, .int .i64 0]) (zar (cs' := #[.int .i64 0, .int .i64 0]) HX2.out 0 _ rfl) 1 _ rfl) _) Tryd.underlying93 rfl (by kernel_rfl)) rfl ?_
    exact ⟨q, hq, ((HR3.out.far hwl hgl (Nat.le_refl _) _).far hwl hgl (Nat.le_refl _) _).alloc _, by rw [HA4.out]; exact ⟨_, rfl, w2.heap.size, by omega, rfl, blk_new_set2 _ _ _ _ _ _⟩⟩
  ·obtain ⟨c2, c3⟩ := c2; have c4 : (n == 0) = false := by simp; omega
   have c5 : (n == 1) = false := by simp; omega
   have ha : actOf n = ⟨2, (n - 3) / 2⟩ := by unfold actOf; rw [if_neg (by omega), if_neg (by omega), if_neg (by omega)]
   have hA := HA2.out; simp only [Option.bind_some] at hA; rw [ha] at hA; have HA3 := Lib.hid hA; clear hA ha; by_cases hf : fitS ⟨2, (n - 3) / 2⟩ st = true
   ·have hA := HA3.out; rw [if_pos hf] at hA; have HA4 := Lib.hid hA; have HF2 := fun W => Lib.hid (HF W ⟨2, (n - 3) / 2⟩).out
    rw [hf] at HF2; clear hA hf HF
    go_wp2_with fail
    refine (HF2 _).out.mono ?_; rintro e w2 ⟨rfl, hb⟩; have HR3 := Lib.hid ((HR2.out.alloc (.cells #[.int .i64 2, .int .i64 ((n - 3) / 2)] 93)).call hb); have HX2 := Lib.hid (zal (zad HX1.out (.cells #[.int .i64 2, .int .i64 ((n - 3) / 2)] 93)) hb); have HY2 := Lib.hid (zal (zav w1 (.cells #[.int .i64 2, .int .i64 ((n - 3) / 2)] 93)) hb); have hs2 := hb.size; rw [World.size_alloc] at hs2; have hlt : w.heap.size < w2.heap.size := by omega
    clear hb hx0 hx1 hx2 hx3; have hx0 := zac HX2.out 0; have hx1 := zac HX2.out 1; have hx2 := zak HX2.out 0; have hx3 := zak HX2.out 1; have hy0 := zac HY2.out 0; have hy1 := zac HY2.out 1; simp at hx0 hx1 hy0 hy1
    go_wp2_with fail
    refine bodyPost_ret (zbm rfl _ _ w.heap.size 93 #[.int .i64 2, .int .i64 ((n - 3) / 2)] (0, 0) _ rfl (zar (cs := #[.int .i64 2, .int .i64 0]) (zar (cs := #[.int .i64 0, .int .i64 0]) HX2.out 0 _ rfl) 1 _ rfl) Tryd.underlying93 rfl (by kernel_rfl)) rfl ?_
    exact ⟨q, hq, (HR3.out.far hwl hgl (Nat.le_refl _) _).far hwl hgl (Nat.le_refl _) _, by rw [HA4.out]; exact ⟨rfl, rfl⟩⟩
   ·have hA := HA3.out; rw [if_neg hf] at hA; replace hf := Bool.eq_false_iff.mpr hf; have HA4 := Lib.hid hA; have HF2 := fun W => Lib.hid (HF W ⟨2, (n - 3) / 2⟩).out
    rw [hf] at HF2; clear hA hf HF
    go_wp2_with fail
    refine (HF2 _).out.mono ?_; rintro e w2 ⟨rfl, hb⟩; have HR3 := Lib.hid ((HR2.out.alloc (.cells #[.int .i64 2, .int .i64 ((n - 3) / 2)] 93)).call hb); have HX2 := Lib.hid (zal (zad HX1.out (.cells #[.int .i64 2, .int .i64 ((n - 3) / 2)] 93)) hb); have HY2 := Lib.hid (zal (zav w1 (.cells #[.int .i64 2, .int .i64 ((n - 3) / 2)] 93)) hb); have hs2 := hb.size; rw [World.size_alloc] at hs2; have hlt : w.heap.size < w2.heap.size := by omega
    clear hb hx0 hx1 hx2 hx3; have hx0 := zac HX2.out 0; have hx1 := zac HX2.out 1; have hx2 := zak HX2.out 0; have hx3 := zak HX2.out 1; have hy0 := zac HY2.out 0; have hy1 := zac HY2.out 1; simp at hx0 hx1 hy0 hy1
    go_wp2_with fail
    refine bodyPost_ret (zbm rfl _ _ w.heap.size 93 #[.int .i64 0, .int .i64 0] (0, 0) _ rfl (zad (zar (cs' := #[.int .i64 0, .int .i64 0]) (zar (cs' := #[.int .i64 0, .int .i64 0]) HX2.out 0 _ rfl) 1 _ rfl) _) Tryd.underlying93 rfl (by kernel_rfl)) rfl ?_
    exact ⟨q, hq, ((HR3.out.far hwl hgl (Nat.le_refl _) _).far hwl hgl (Nat.le_refl _) _).alloc _, by rw [HA4.out]; exact ⟨_, rfl, w2.heap.size, by omega, rfl, blk_new_set2 _ _ _ _ _ _⟩⟩
def many {α : Type} (rd : Nat → Except Nat (α × Nat)) : Nat → Nat → Except Nat (List α × Nat)
 | 0, p => .ok ([], p)
 | m + 1, p => match rd p with
  | .error e => .error e
  | .ok (x, q) => match many rd m q with
   | .error e => .error e
   | .ok (l, r) => .ok (x :: l, r)
def cat {α : Type} (acc : List α) : Except Nat (List α × Nat) → Except Nat (List α × Nat)
 | .error e => .error e
 | .ok (l, r) => .ok (acc ++ l, r)
theorem cat_nil {α : Type} (x : Except Nat (List α × Nat)) : cat [] x = x := by rcases x with _ | ⟨l, r⟩ <;> rfl
theorem cat_done {α : Type} (rd : Nat → Except Nat (α × Nat)) (acc : List α) (q : Nat) : cat acc (many rd 0 q) = .ok (acc, q) := by simp [many, cat]
theorem cat_bad {α : Type} {rd : Nat → Except Nat (α × Nat)} (acc : List α) {m q e : Nat} (h : rd q = .error e) : cat acc (many rd (m + 1) q) = .error e := by simp [many, h, cat]
theorem cat_more {α : Type} {rd : Nat → Except Nat (α × Nat)} (acc : List α) {m q q' : Nat} {x : α} (h : rd q = .ok (x, q')) : cat acc (many rd (m + 1) q) = cat (acc ++ [x]) (many rd m q') := by
 simp only [many, h]; rcases many rd m q' with _ | ⟨l, r⟩
 ·rfl
 ·simp [cat]
def actR (s : ByteArray) (st : Int) (p : Nat) : Except Nat (S93 × Nat) := match actS s st p with | none => .error p | some r => .ok r
def goR (s : ByteArray) (st : Int) (p : Nat) : Except Nat (Int × Nat) := match within s 0 st p with | none => .error p | some r => .ok (r.1 - 1, r.2)
def bodS (s : ByteArray) (st : Int) (te sy p : Nat) : Except Nat (List (List S93) × List (List Int)) :=
 match many (many (actR s st) te) st.toNat p with
 | .error e => .error e
 | .ok (rows, p4) => match many (many (goR s st) sy) st.toNat p4 with
  | .error e => .error e
  | .ok (gos, p5) => if p5 < s.size then .error p5 else .ok (rows, gos)
def tabS (s : ByteArray) (p : Nat) : Except Nat (List (List S93) × List (List Int)) :=
 match within s 1 2048 p with
 | none => .error p
 | some (st, p1) => match within s 1 64 p1 with
  | none => .error p1
  | some (te, p2) => match within s 0 128 p2 with
   | none => .error p2
   | some (sy, p3) => bodS s st te.toNat sy.toNat p3
def decS (s : ByteArray) : Except Nat (List (List S93) × List (List Int)) :=
 if ¬ (0 < s.size ∧ bt s 0 = 84) then .error 0 else if ¬ (1 < s.size ∧ bt s 1 = 1) then .error 1 else tabS s 2
def HD (s : ByteArray) (p : Nat) : Nat → Int → Int → Int → Nat → Prop
 | 0, x0, x1, x2, q => x0 = 0 ∧ x1 = 0 ∧ x2 = 0 ∧ q = p
 | 1, x0, x1, x2, q => within s 1 2048 p = some (x0, q) ∧ x1 = 0 ∧ x2 = 0
 | 2, x0, x1, x2, q => ∃ q1, within s 1 2048 p = some (x0, q1) ∧ within s 1 64 q1 = some (x1, q) ∧ x2 = 0
 | _, x0, x1, x2, q => ∃ q1 q2, within s 1 2048 p = some (x0, q1) ∧ within s 1 64 q1 = some (x1, q2) ∧ within s 0 128 q2 = some (x2, q)
theorem HD.bad0 {s : ByteArray} {p q : Nat} {x0 x1 x2 : Int} (h : HD s p 0 x0 x1 x2 q) (hw : within s 1 2048 q = none) : tabS s p = .error q := by
 obtain ⟨_, _, _, rfl⟩ := h; unfold tabS; rw [hw]
theorem HD.bad1 {s : ByteArray} {p q : Nat} {x0 x1 x2 : Int} (h : HD s p 1 x0 x1 x2 q) (hw : within s 1 64 q = none) : tabS s p = .error q := by
 obtain ⟨h1, _, _⟩ := h; unfold tabS; rw [h1]; simp only; rw [hw]
theorem HD.bad2 {s : ByteArray} {p q : Nat} {x0 x1 x2 : Int} (h : HD s p 2 x0 x1 x2 q) (hw : within s 0 128 q = none) : tabS s p = .error q := by
 obtain ⟨q1, h1, h2, _⟩ := h; unfold tabS; rw [h1]; simp only; rw [h2]; simp only; rw [hw]
theorem HD.all {s : ByteArray} {p q : Nat} {x0 x1 x2 : Int} (h : HD s p 3 x0 x1 x2 q) : tabS s p = bodS s x0 x1.toNat x2.toNat q ∧ 1 ≤ x0 ∧ x0 ≤ 2048 ∧ 1 ≤ x1 ∧ x1 ≤ 64 ∧ 0 ≤ x2 ∧ x2 ≤ 128 := by
 obtain ⟨q1, q2, h1, h2, h3⟩ := h; refine ⟨by unfold tabS; rw [h1]; simp only; rw [h2]; simp only; rw [h3], ?_⟩
 have a := within_bound h1; have b := within_bound h2; have c := within_bound h3; exact ⟨a.1, a.2.1, b.1, b.2.1, c.1, c.2.1⟩
end Dec
end Go.Proofs.YtcijanmckhlpiaaDoor
