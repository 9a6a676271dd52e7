-- Texts of this seat, cut to what is used and merged (by shake.py).
import Derived.Test.YtcijanmckhlpiaaDoorSk5
import Derived.Test.YtcijanmckhlpiaaDoorSk16
import Derived.Deep.QuietTactic
set_option linter.unusedVariables false
set_option linter.unusedSimpArgs false
namespace Go.Proofs.YtcijanmckhlpiaaDoor
open Go.RowKit Go.Proofs.YtcijanmckhlpiaaDoorW.PrintWords Go.Proofs.YtcijanmckhlpiaaDoorW.PrintLast Go.Proofs.YtcijanmckhlpiaaDoorW.PrintMore Go.Proofs.YtcijanmckhlpiaaDoor.PTableBack
namespace Spr
set_option maxRecDepth 100000 in
set_option maxHeartbeats 4000000 in
theorem same_true (A1 : Option Addr) (c1 : Nat) (rows : List (List S93)) (B1 : Option Addr) (d1 : Nat) (gos : List (List Int)) (A2 : Option Addr) (c2 : Nat) (B2 : Option Addr) (d2 : Nat) (w : World) (h1 : (Kd.slice 93 k93).C w A1 rows.length rows) (h2 : (Kd.slice 3 (Kd.int .i64)).C w B1 gos.length gos) (h3 : (Kd.slice 93 k93).C w A2 rows.length rows) (h4 : (Kd.slice 3 (Kd.int .i64)).C w B2 gos.length gos) (hn : rows.length ≤ 1000000) (hm : gos.length ≤ 1000000) :
  Calls Tryd.prog 12 #[.agg #[.slice A1 rows.length c1, .slice B1 gos.length d1], .agg #[.slice A2 rows.length c2, .slice B2 gos.length d2]] w fun e w' => e = .returned (.bool true) ∧ Below w.heap.size w w' := by
 have hb0 := zab (zab (Below.refl w.heap.size w) (.cells #[.slice A1 rows.length c1, .slice B1 gos.length d1] 25)) (.cells #[.slice A2 rows.length c2, .slice B2 gos.length d2] 25); have R1 := Lib.hid (Kd.zaw h1 hb0); have R2 := Lib.hid (Kd.zaw h2 hb0); have R3 := Lib.hid (Kd.zaw h3 hb0); have R4 := Lib.hid (Kd.zaw h4 hb0); have HB0 := Lib.hid hb0; have X1 := Lib.hid (zad (zav w (.cells #[.slice A1 rows.length c1, .slice B1 gos.length d1] 25)) (.cells #[.slice A2 rows.length c2, .slice B2 gos.length d2] 25)); have hrb := zav (w.alloc (.cells #[.slice A1 rows.length c1, .slice B1 gos.length d1] 25)) (.cells #[.slice A2 rows.length c2, .slice B2 gos.length d2] 25); rw [Bld.szA] at hrb; have X2 := Lib.hid hrb; clear hb0 h1 h2 h3 h4 hrb
 go_enter Tryd.func12, Tryd.ntmps12
 go_wp2_with ((with_reducible refine gate_ (.fieldAddr 25 (.tmp 2) 0) rfl ?_); refine Hid.out ?_)
 refine Lib.hid ?_; generalize (w.alloc (.cells #[.slice A1 rows.length c1, .slice B1 gos.length d1] 25)).alloc (.cells #[.slice A2 rows.length c2, .slice B2 gos.length d2] 25) = V at *; generalize w.heap.size + 1 = b2 at *; have y10 := zac X1.out 0; have y11 := zac X1.out 1; have y20 := zac X2.out 0; have y21 := zac X2.out 1; simp at y10 y11 y20 y21
 go_wp2_with fail
 clear y10 y11 y20 y21
 go_loopw [5] (fun v w' => ∃ i : Nat, v = .int .i64 (i : Int) ∧ i ≤ rows.length ∧ Hid (Below V.heap.size V w')) (fun v _ => rows.length - (intOf v).toNat)
 case atStart => exact ⟨0, rfl, Nat.zero_le _, Lib.hid (Below.refl _ _)⟩
 case round =>
  obtain ⟨i, rfl, hi, HB⟩ := hrel; have y10 := zac (zal X1.out HB.out) 0; have y11 := zac (zal X1.out HB.out) 1; have y20 := zac (zal X2.out HB.out) 0; have y21 := zac (zal X2.out HB.out) 1; simp at y10 y11 y20 y21; by_cases hil : i < rows.length
  ·have hib : decide ((i : Int) < (rows.length : Int)) = true := decide_eq_true (by omega)
   have hi0 : (0 : Int) ≤ (i : Int) := Int.natCast_nonneg _; have hi1 : (i : Int) < (rows.length : Int) := by omega
   have hiw : IntKind.i64.wrap ((i : Int) + 1) = (i : Int) + 1 := IntWalk.i64_in _ (by omega)
   have hi2 : i + 1 ≤ rows.length := hil; have hme : rows.length - (i + 1) < rows.length - i := by omega
   obtain ⟨a1, E1, e1, rfl, s1, -, C1⟩ := at_L2 (Kd.zaw R1.out HB.out) (i : Int) hi0 hi1; obtain ⟨a2, E2, e2, rfl, s2, -, C2⟩ := at_L2 (Kd.zaw R3.out HB.out) (i : Int) hi0 hi1; rw [Int.toNat_natCast] at s1 s2; have hrl := C1.1; have hrm := C1.2.1; generalize rd_L2 rows (i : Int) = row at *; have D1 := Lib.hid C1; have D2 := Lib.hid C2; clear C1 C2
   go_wp2_with fail
   refine wp_region_quiet_lit (by kernel_rfl) (by kernel_rfl) ?_
   repeat (go_big_quiet_step (fail))
   refine wpQuiet_nil ?_; intro _ hw1; obtain ⟨nq, hw2⟩ := hw1; subst hw2; have HB1 := Lib.hid (zaa HB.out nq); clear y10 y11 y20 y21
   go_wp2_with fail
   go_loopw [6] (fun v w' => ∃ k : Nat, v = .int .i64 (k : Int) ∧ k ≤ row.length ∧ Hid (Below V.heap.size V w') ∧ Hid (Below wr.heap.size wr w')) (fun v _ => row.length - (intOf v).toNat)
   case atStart => exact ⟨0, rfl, Nat.zero_le _, HB1, Lib.hid (zaa (Below.refl _ _) nq)⟩
   case round =>
    clear HB HB1; have t1 := s1; have t2 := s2; clear s1 s2; obtain ⟨k, rfl, hk, HB, HC⟩ := hrel; have y10 := zac (zal X1.out HB.out) 0; have y11 := zac (zal X1.out HB.out) 1; have y20 := zac (zal X2.out HB.out) 0; have y21 := zac (zal X2.out HB.out) 1; simp at y10 y11 y20 y21; have s1 := zat HC.out t1; have s2 := zat HC.out t2; have hk0 : (0 : Int) ≤ (k : Int) := Int.natCast_nonneg _; by_cases hkl : k < row.length
    ·have hkb : decide ((k : Int) < (row.length : Int)) = true := decide_eq_true (by omega)
     have hk1 : (k : Int) < (row.length : Int) := by omega
     have hkw : IntKind.i64.wrap ((k : Int) + 1) = (k : Int) + 1 := IntWalk.i64_in _ (by omega)
     have hk2 : k + 1 ≤ row.length := hkl; have hmf : row.length - (k + 1) < row.length - k := by omega
     obtain ⟨u1, rfl, p1, q1⟩ := at_T93 D1.out (k : Int) hk0 hk1; obtain ⟨u2, rfl, p2, q2⟩ := at_T93 D2.out (k : Int) hk0 hk1; rw [Int.toNat_natCast] at p1 q1 p2 q2; replace p1 := zat HC.out p1; replace p2 := zat HC.out p2; replace q1 := zat HC.out q1; replace q2 := zat HC.out q2; generalize rd_T93 row (k : Int) = x at *
     go_wp2_with fail
     refine wp_region_quiet_lit (by kernel_rfl) (by kernel_rfl) ?_
     repeat (go_big_quiet_step (fail))
     refine wpQuiet_nil ?_; intro _ hw1; obtain ⟨nq, hw2⟩ := hw1; subst hw2; have HB1 := Lib.hid (zaa HB.out nq); have HC1 := Lib.hid (zaa HC.out nq); clear y10 y11 y20 y21 p1 p2 q1 q2
     go_wp2_with fail
     go_roundw
     case rel => first | exact ⟨k + 1, by rw [Int.natCast_add]; rfl, hk2, HB1, HC1⟩ | ((repeat apply Exists.intro); exact ⟨⟨k + 1, by rw [Int.natCast_add]; rfl, hk2, HB1, HC1⟩, rfl⟩)
     case measure => exact hmf
    ·have hkb : decide ((k : Int) < (row.length : Int)) = false := decide_eq_false (by omega)
     go_wp2_with fail
     go_roundw
     case rel => first | exact ⟨i + 1, by rw [Int.natCast_add]; rfl, hi2, HB⟩ | ((repeat apply Exists.intro); exact ⟨⟨i + 1, by rw [Int.natCast_add]; rfl, hi2, HB⟩, rfl⟩)
     case measure => exact hme
  ·have hib : decide ((i : Int) < (rows.length : Int)) = false := decide_eq_false (by omega)
   go_wp2_with fail
   clear y10 y11 y20 y21
   go_loopw [7] (fun v w' => ∃ i : Nat, v = .int .i64 (i : Int) ∧ i ≤ gos.length ∧ Hid (Below V.heap.size V w')) (fun v _ => gos.length - (intOf v).toNat)
   case atStart => exact ⟨0, rfl, Nat.zero_le _, HB⟩
   case round =>
    clear HB; obtain ⟨i, rfl, hi, HB⟩ := hrel; have y10 := zac (zal X1.out HB.out) 0; have y11 := zac (zal X1.out HB.out) 1; have y20 := zac (zal X2.out HB.out) 0; have y21 := zac (zal X2.out HB.out) 1; simp at y10 y11 y20 y21; by_cases hil : i < gos.length
    ·have hib : decide ((i : Int) < (gos.length : Int)) = true := decide_eq_true (by omega)
     have hi0 : (0 : Int) ≤ (i : Int) := Int.natCast_nonneg _; have hi1 : (i : Int) < (gos.length : Int) := by omega
     have hiw : IntKind.i64.wrap ((i : Int) + 1) = (i : Int) + 1 := IntWalk.i64_in _ (by omega)
     have hi2 : i + 1 ≤ gos.length := hil; have hme : gos.length - (i + 1) < gos.length - i := by omega
     obtain ⟨a1, E1, e1, rfl, s1, -, C1⟩ := at_L3 (Kd.zaw R2.out HB.out) (i : Int) hi0 hi1; obtain ⟨a2, E2, e2, rfl, s2, -, C2⟩ := at_L3 (Kd.zaw R4.out HB.out) (i : Int) hi0 hi1; rw [Int.toNat_natCast] at s1 s2; have hrl := C1.1; have hrm := C1.2.1; generalize rd_L3 gos (i : Int) = row at *; have D1 := Lib.hid C1; have D2 := Lib.hid C2; clear C1 C2
     go_wp2_with fail
     refine wp_region_quiet_lit (by kernel_rfl) (by kernel_rfl) ?_
     repeat (go_big_quiet_step (fail))
     refine wpQuiet_nil ?_; intro _ hw1; obtain ⟨nq, hw2⟩ := hw1; subst hw2; have HB1 := Lib.hid (zaa HB.out nq); clear y10 y11 y20 y21
     go_wp2_with fail
     go_loopw [8] (fun v w' => ∃ k : Nat, v = .int .i64 (k : Int) ∧ k ≤ row.length ∧ Hid (Below V.heap.size V w') ∧ Hid (Below wr.heap.size wr w')) (fun v _ => row.length - (intOf v).toNat)
     case atStart => exact ⟨0, rfl, Nat.zero_le _, HB1, Lib.hid (zaa (Below.refl _ _) nq)⟩
     case round =>
      clear HB HB1; have t1 := s1; have t2 := s2; clear s1 s2; obtain ⟨k, rfl, hk, HB, HC⟩ := hrel; have y10 := zac (zal X1.out HB.out) 0; have y11 := zac (zal X1.out HB.out) 1; have y20 := zac (zal X2.out HB.out) 0; have y21 := zac (zal X2.out HB.out) 1; simp at y10 y11 y20 y21; have s1 := zat HC.out t1; have s2 := zat HC.out t2; have hk0 : (0 : Int) ≤ (k : Int) := Int.natCast_nonneg _; by_cases hkl : k < row.length
      ·have hkb : decide ((k : Int) < (row.length : Int)) = true := decide_eq_true (by omega)
       have hk1 : (k : Int) < (row.length : Int) := by omega
       have hkw : IntKind.i64.wrap ((k : Int) + 1) = (k : Int) + 1 := IntWalk.i64_in _ (by omega)
       have hk2 : k + 1 ≤ row.length := hkl; have hmf : row.length - (k + 1) < row.length - k := by omega
       obtain ⟨u1, cs1, rfl, -, hx1, p1⟩ := Kd.C_get D1.out 0 (k : Int) hk0 hk1; cases hx1; replace p1 := zat HC.out (p1 0 _ rfl); rw [Int.toNat_natCast] at p1; replace p1 : wr.cell? (u1.add (k * 1 + 0)) = some (.int .i64 (row.getD k 0)) := p1; rw [Nat.mul_one, Nat.add_zero] at p1; obtain ⟨u2, cs2, rfl, -, hx2, p2⟩ := Kd.C_get D2.out 0 (k : Int) hk0 hk1; cases hx2; replace p2 := zat HC.out (p2 0 _ rfl); rw [Int.toNat_natCast] at p2; replace p2 : wr.cell? (u2.add (k * 1 + 0)) = some (.int .i64 (row.getD k 0)) := p2; rw [Nat.mul_one, Nat.add_zero] at p2; generalize row.getD k 0 = x at *
       go_wp2_with fail
       refine wp_region_quiet_lit (by kernel_rfl) (by kernel_rfl) ?_
       repeat (go_big_quiet_step (fail))
       refine wpQuiet_nil ?_; intro _ hw1; obtain ⟨nq, hw2⟩ := hw1; subst hw2; have HB1 := Lib.hid (zaa HB.out nq); have HC1 := Lib.hid (zaa HC.out nq); clear y10 y11 y20 y21 p1 p2
       go_wp2_with fail
       go_roundw
       case rel => first | exact ⟨k + 1, by rw [Int.natCast_add]; rfl, hk2, HB1, HC1⟩ | ((repeat apply Exists.intro); exact ⟨⟨k + 1, by rw [Int.natCast_add]; rfl, hk2, HB1, HC1⟩, rfl⟩)
       case measure => exact hmf
      ·have hkb : decide ((k : Int) < (row.length : Int)) = false := decide_eq_false (by omega)
       go_wp2_with fail
       go_roundw
       case rel => first | exact ⟨i + 1, by rw [Int.natCast_add]; rfl, hi2, HB⟩ | ((repeat apply Exists.intro); exact ⟨⟨i + 1, by rw [Int.natCast_add]; rfl, hi2, HB⟩, rfl⟩)
       case measure => exact hme
    ·have hib : decide ((i : Int) < (gos.length : Int)) = false := decide_eq_false (by omega)
     go_wp2_with fail
     go_ret; exact ⟨rfl, zam HB0.out HB.out⟩
theorem same_eq (A1 : Option Addr) (c1 : Nat) (r1 : List (List S93)) (B1 : Option Addr) (d1 : Nat) (g1 : List (List Int)) (A2 : Option Addr) (c2 : Nat) (r2 : List (List S93)) (B2 : Option Addr) (d2 : Nat) (g2 : List (List Int)) (w : World) (h1 : (Kd.slice 93 k93).C w A1 r1.length r1) (h2 : (Kd.slice 3 (Kd.int .i64)).C w B1 g1.length g1) (h3 : (Kd.slice 93 k93).C w A2 r2.length r2) (h4 : (Kd.slice 3 (Kd.int .i64)).C w B2 g2.length g2) (er : r1 = r2) (eg : g1 = g2) (hn : r2.length ≤ 2048) (hm : g2.length ≤ 2048) :
  Calls Tryd.prog 12 #[.agg #[.slice A1 r1.length c1, .slice B1 g1.length d1], .agg #[.slice A2 r2.length c2, .slice B2 g2.length d2]] w fun e w' => e = .returned (.bool true) ∧ Below w.heap.size w w' := by
 subst er eg; exact same_true A1 c1 r1 B1 d1 g1 A2 c2 B2 d2 w h1 h2 h3 h4 (by omega) (by omega)
end Spr
end Go.Proofs.YtcijanmckhlpiaaDoor
