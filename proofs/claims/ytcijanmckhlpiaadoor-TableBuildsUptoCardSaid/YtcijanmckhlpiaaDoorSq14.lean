-- Texts of this seat, cut to what is used and merged (by shake.py).
import Derived.Test.YtcijanmckhlpiaaDoorSq4
import Derived.Test.YtcijanmckhlpiaaDoorSq5
import Derived.Test.YtcijanmckhlpiaaDoorSq13
import Derived.Deep.QuietTactic
set_option linter.unusedVariables false
set_option linter.unusedSimpArgs false
namespace Go.Proofs.YtcijanmckhlpiaaDoor
open Go.RowKit Go.Proofs.YtcijanmckhlpiaaDoorW.PrintWords Go.Proofs.YtcijanmckhlpiaaDoorW.PrintLast Go.Proofs.YtcijanmckhlpiaaDoorW.PrintMore Go.Proofs.YtcijanmckhlpiaaDoor.PTableBuilds
attribute [local go_sem high] eqA110 eqA112 eqA115
namespace Rm
open Bld
set_option maxRecDepth 100000 in
set_option maxHeartbeats 8000000 in
theorem sameGram_eq (A1 : Option Addr) (c1 : Nat) (l : List S112) (B1 : Option Addr) (d1 : Nat) (m : List S115) (C1 : Option Addr) (e1 : Nat) (ps : List S77) (A2 : Option Addr) (c2 : Nat) (B2 : Option Addr) (d2 : Nat) (C2 : Option Addr) (e2 : Nat) (w : World) (h1 : GR w A1 c1 l B1 d1 m C1 e1 ps) (h2 : GR w A2 c2 l B2 d2 m C2 e2 ps) (hl : l.length ≤ 1048576) (hm : m.length ≤ 1048576) (hd : dots ps ≤ 1048576) :
  Calls Tryd.prog 44 #[.agg #[.slice A1 l.length c1, .slice B1 m.length d1, .slice C1 ps.length e1], .agg #[.slice A2 l.length c2, .slice B2 m.length d2, .slice C2 ps.length e2]] w fun e w' => e = .returned (.bool true) ∧ Below w.heap.size w w' := by
 have hps := dots_len ps; have hb0 := zac (zac (Below.refl w.heap.size w) (.cells #[.slice A1 l.length c1, .slice B1 m.length d1, .slice C1 ps.length e1] 51)) (.cells #[.slice A2 l.length c2, .slice B2 m.length d2, .slice C2 ps.length e2] 51); have R1 := Lib.hid (h1.below hb0); have R2 := Lib.hid (h2.below hb0); have HB0 := Lib.hid hb0; have X1 := Lib.hid (zad (zau w (.cells #[.slice A1 l.length c1, .slice B1 m.length d1, .slice C1 ps.length e1] 51)) (.cells #[.slice A2 l.length c2, .slice B2 m.length d2, .slice C2 ps.length e2] 51)); have hx := zau (w.alloc (.cells #[.slice A1 l.length c1, .slice B1 m.length d1, .slice C1 ps.length e1] 51)) (.cells #[.slice A2 l.length c2, .slice B2 m.length d2, .slice C2 ps.length e2] 51); rw [show (w.alloc (.cells #[.slice A1 l.length c1, .slice B1 m.length d1, .slice C1 ps.length e1] 51)).heap.size = w.heap.size + 1 by rw [World.size_alloc]] at hx
 have X2 := Lib.hid hx; have HDT := Lib.hid hd; have nl : ((l.length : Int) != (l.length : Int)) = false := by simp
 have nm : ((m.length : Int) != (m.length : Int)) = false := by simp
 have np : ((ps.length : Int) != (ps.length : Int)) = false := by simp
 clear hb0 h1 h2 hx hd
 go_enter Tryd.func44, Tryd.ntmps44
 go_wp2_with ((with_reducible refine gate_ (.load 47 (.tmp 9)) rfl ?_); refine Hid.out ?_)
 refine Lib.hid ?_; generalize (w.alloc (.cells #[.slice A1 l.length c1, .slice B1 m.length d1, .slice C1 ps.length e1] 51)).alloc (.cells #[.slice A2 l.length c2, .slice B2 m.length d2, .slice C2 ps.length e2] 51) = V at *; generalize w.heap.size + 1 = g2 at *; generalize hg1 : w.heap.size = g1 at *; have y10 := zaa X1.out 0; have y11 := zaa X1.out 1; have y12 := zaa X1.out 2; have y20 := zaa X2.out 0; have y21 := zaa X2.out 1; have y22 := zaa X2.out 2; simp at y10 y11 y12 y20 y21 y22
 go_wp2_with fail
 clear y10 y11 y12 y20 y21 y22
 go_loopw [5] (fun v w' => ∃ i : Nat, v = .int .i64 (i : Int) ∧ i ≤ l.length ∧ Hid (Below V.heap.size V w')) (fun v _ => l.length - (intOf v).toNat)
 case atStart => exact ⟨0, rfl, Nat.zero_le _, Lib.hid (Below.refl _ _)⟩
 case round =>
  obtain ⟨i, rfl, hi, HB⟩ := hrel; have y10 := zaa (zak X1.out HB.out) 0; have y20 := zaa (zak X2.out HB.out) 0; simp at y10 y20; by_cases hil : i < l.length
  ·have hib : decide ((i : Int) < (l.length : Int)) = true := decide_eq_true (by omega)
   have hi0 : (0 : Int) ≤ (i : Int) := Int.natCast_nonneg _; have hi1 : (i : Int) < (l.length : Int) := by omega
   have hiw : IntKind.i64.wrap ((i : Int) + 1) = (i : Int) + 1 := IntWalk.i64_in _ (by omega)
   have hi2 : i + 1 ≤ l.length := hil; have hme : l.length - (i + 1) < l.length - i := by omega
   obtain ⟨u1, hu1, p1, q1⟩ := at_T112 (R1.out.below HB.out).hA (i : Int) hi0 hi1; obtain ⟨u2, hu2, p2, q2⟩ := at_T112 (R2.out.below HB.out).hA (i : Int) hi0 hi1; rw [Int.toNat_natCast] at p1 q1 p2 q2; subst hu1; subst hu2; generalize rd_T112 l (i : Int) = x at *; have hss : (x.f0.toList == x.f0.toList) = true := by simp
   have hsb : (x.f1 == x.f1) = true := by simp
   go_wp2_with fail
   refine wp_region_quiet_lit (by kernel_rfl) (by kernel_rfl) ?_
   repeat (go_big_quiet_step (fail))
   refine wpQuiet_nil ?_; intro _ hw1; obtain ⟨nq, hw2⟩ := hw1; subst hw2; have HB1 := Lib.hid (zab HB.out nq); clear y10 y20 p1 p2 q1 q2
   go_wp2_with fail
   go_roundw
   case rel => first | exact ⟨i + 1, by rw [Int.natCast_add]; rfl, hi2, HB1⟩ | ((repeat apply Exists.intro); exact ⟨⟨i + 1, by rw [Int.natCast_add]; rfl, hi2, HB1⟩, rfl⟩)
   case measure => exact hme
  ·have hib : decide ((i : Int) < (l.length : Int)) = false := decide_eq_false (by omega)
   go_wp2_with fail
   clear y10 y20
   go_loopw [6] (fun v w' => ∃ i : Nat, v = .int .i64 (i : Int) ∧ i ≤ m.length ∧ Hid (Below V.heap.size V w')) (fun v _ => m.length - (intOf v).toNat)
   case atStart => exact ⟨0, rfl, Nat.zero_le _, HB⟩
   case round =>
    clear HB hib hil hi; obtain ⟨i, rfl, hi, HB⟩ := hrel; have y11 := zaa (zak X1.out HB.out) 1; have y21 := zaa (zak X2.out HB.out) 1; simp at y11 y21; by_cases hil : i < m.length
    ·have hib : decide ((i : Int) < (m.length : Int)) = true := decide_eq_true (by omega)
     have hi0 : (0 : Int) ≤ (i : Int) := Int.natCast_nonneg _; have hi1 : (i : Int) < (m.length : Int) := by omega
     have hiw : IntKind.i64.wrap ((i : Int) + 1) = (i : Int) + 1 := IntWalk.i64_in _ (by omega)
     have hi2 : i + 1 ≤ m.length := hil; have hme : m.length - (i + 1) < m.length - i := by omega
     obtain ⟨u1, hu1, p1, q1⟩ := at_T115 (R1.out.below HB.out).hB (i : Int) hi0 hi1; obtain ⟨u2, hu2, p2, q2⟩ := at_T115 (R2.out.below HB.out).hB (i : Int) hi0 hi1; rw [Int.toNat_natCast] at p1 q1 p2 q2; subst hu1; subst hu2; generalize rd_T115 m (i : Int) = x at *; have hss : (x.f0.toList == x.f0.toList) = true := by simp
     have hsb : (x.f1 == x.f1) = true := by simp
     go_wp2_with fail
     refine wp_region_quiet_lit (by kernel_rfl) (by kernel_rfl) ?_
     repeat (go_big_quiet_step (fail))
     refine wpQuiet_nil ?_; intro _ hw1; obtain ⟨nq, hw2⟩ := hw1; subst hw2; have HB1 := Lib.hid (zab HB.out nq); clear y11 y21 p1 p2 q1 q2
     go_wp2_with fail
     go_roundw
     case rel => first | exact ⟨i + 1, by rw [Int.natCast_add]; rfl, hi2, HB1⟩ | ((repeat apply Exists.intro); exact ⟨⟨i + 1, by rw [Int.natCast_add]; rfl, hi2, HB1⟩, rfl⟩)
     case measure => exact hme
    ·have hib : decide ((i : Int) < (m.length : Int)) = false := decide_eq_false (by omega)
     go_wp2_with fail
     clear y11 y21
     go_loopw [7] (fun v w' => ∃ i : Nat, v = .int .i64 (i : Int) ∧ i ≤ ps.length ∧ Hid (Below V.heap.size V w')) (fun v _ => ps.length - (intOf v).toNat)
     case atStart => exact ⟨0, rfl, Nat.zero_le _, HB⟩
     case round =>
      clear HB hib hil hi; obtain ⟨i, rfl, hi, HB⟩ := hrel; have y12 := zaa (zak X1.out HB.out) 2; have y22 := zaa (zak X2.out HB.out) 2; simp at y12 y22; by_cases hil : i < ps.length
      ·have hib : decide ((i : Int) < (ps.length : Int)) = true := decide_eq_true (by omega)
       have hi0 : (0 : Int) ≤ (i : Int) := Int.natCast_nonneg _; have hi1 : (i : Int) < (ps.length : Int) := by omega
       have hiw : IntKind.i64.wrap ((i : Int) + 1) = (i : Int) + 1 := IntWalk.i64_in _ (by have := HDT.out; omega)
       have hi2 : i + 1 ≤ ps.length := hil; have hme : ps.length - (i + 1) < ps.length - i := by omega
       obtain ⟨u1, E1, s1, hu1, p1, q1, -, D1⟩ := at_T77 (R1.out.below HB.out).hC (i : Int) hi0 hi1; obtain ⟨u2, E2, s2, hu2, p2, q2, -, D2⟩ := at_T77 (R2.out.below HB.out).hC (i : Int) hi0 hi1; have hrl : (zal ps (i : Int)).f1.length < 1048577 := by have := dots_mem (rd77_mem hil); have := HDT.out; omega
       rw [Int.toNat_natCast] at p1 q1 p2 q2; subst hu1; subst hu2; generalize zal ps (i : Int) = x at *; have D1 := Lib.hid D1; have D2 := Lib.hid D2; have hsb : (x.f0 != x.f0) = false := by simp
       have hsc : ((x.f1.length : Int) != (x.f1.length : Int)) = false := by simp
       have Q1 := Lib.hid q1; have Q2 := Lib.hid q2
       go_wp2_with fail
       refine wp_region_quiet_lit (by kernel_rfl) (by kernel_rfl) ?_
       repeat (go_big_quiet_step (fail))
       refine wpQuiet_nil ?_; intro _ hw1; obtain ⟨nq, hw2⟩ := hw1; subst hw2; have HB1 := Lib.hid (zab HB.out nq); clear y12 y22 p1 p2 q1 q2
       go_wp2_with fail
       go_loopw [8] (fun v w' => ∃ k : Nat, v = .int .i64 (k : Int) ∧ k ≤ x.f1.length ∧ Hid (Below V.heap.size V w') ∧ Hid (Below wr.heap.size wr w')) (fun v _ => x.f1.length - (intOf v).toNat)
       case atStart => exact ⟨0, rfl, Nat.zero_le _, HB1, Lib.hid (zab (Below.refl _ _) nq)⟩
       case round =>
        clear HB HB1; obtain ⟨k, rfl, hk, HB, HC⟩ := hrel; have y12 := zaa (zak X1.out HB.out) 2; have y22 := zaa (zak X2.out HB.out) 2; simp at y12 y22; have q1 := zan HC.out Q1.out; have q2 := zan HC.out Q2.out; by_cases hkl : k < x.f1.length
        ·have hkb : decide ((k : Int) < (x.f1.length : Int)) = true := decide_eq_true (by omega)
         have hk0 : (0 : Int) ≤ (k : Int) := Int.natCast_nonneg _; have hk1 : (k : Int) < (x.f1.length : Int) := by omega
         have hkw : IntKind.i64.wrap ((k : Int) + 1) = (k : Int) + 1 := IntWalk.i64_in _ (by omega)
         have hk2 : k + 1 ≤ x.f1.length := hkl; have hmf : x.f1.length - (k + 1) < x.f1.length - k := by omega
         obtain ⟨v1, hv1, a1, b1, r1⟩ := zbm D1.out (k : Int) hk0 hk1; obtain ⟨v2, hv2, a2, b2, r2⟩ := zbm D2.out (k : Int) hk0 hk1; rw [Int.toNat_natCast] at a1 b1 r1 a2 b2 r2; subst hv1; subst hv2; replace a1 := zan HC.out a1; replace b1 := zan HC.out b1; replace r1 := zan HC.out r1; replace a2 := zan HC.out a2; replace b2 := zan HC.out b2; replace r2 := zan HC.out r2; generalize zax x.f1 (k : Int) = z at *; have hs0 : (z.f0 == z.f0) = true := by simp
         have hs1 : (z.f1.toList == z.f1.toList) = true := by simp
         have hs2 : (z.f2.toList == z.f2.toList) = true := by simp
         go_wp2_with fail
         refine wp_region_quiet_lit (by kernel_rfl) (by kernel_rfl) ?_
         repeat (go_big_quiet_step (fail))
         refine wpQuiet_nil ?_; intro _ hw1; obtain ⟨nq, hw2⟩ := hw1; subst hw2; have HB1 := Lib.hid (zab HB.out nq); have HC1 := Lib.hid (zab HC.out nq); clear y12 y22 q1 q2 a1 b1 r1 a2 b2 r2
         go_wp2_with fail
         go_roundw
         case rel => first | exact ⟨k + 1, by rw [Int.natCast_add]; rfl, hk2, HB1, HC1⟩ | ((repeat apply Exists.intro); exact ⟨⟨k + 1, by rw [Int.natCast_add]; rfl, hk2, HB1, HC1⟩, rfl⟩)
         case measure => exact hmf
        ·have hkb : decide ((k : Int) < (x.f1.length : Int)) = false := decide_eq_false (by omega)
         go_wp2_with fail
         go_roundw
         case rel => first | exact ⟨i + 1, by rw [Int.natCast_add]; rfl, hi2, HB⟩ | ((repeat apply Exists.intro); exact ⟨⟨i + 1, by rw [Int.natCast_add]; rfl, hi2, HB⟩, rfl⟩)
         case measure => exact hme
      ·have hib : decide ((i : Int) < (ps.length : Int)) = false := decide_eq_false (by omega)
       go_wp2_with fail
       go_ret; refine ⟨rfl, ?_⟩; have h : Below w.heap.size w wr := zam (by rw [hg1]; exact HB0.out) HB.out
       first | exact h | (rw [← hg1]; exact h)
end Rm
end Go.Proofs.YtcijanmckhlpiaaDoor
namespace Go.Proofs.YtcijanmckhlpiaaDoor
open Go.RowKit Go.Proofs.YtcijanmckhlpiaaDoorW.PrintWords Go.Proofs.YtcijanmckhlpiaaDoorW.PrintLast Go.Proofs.YtcijanmckhlpiaaDoorW.PrintMore Go.Proofs.YtcijanmckhlpiaaDoor.PTableBuilds
attribute [local go_sem high] eqA110
namespace Rm
open Bld
theorem cut_room {P : Program} (t e : TypeId) (kh : IntKind) {i : TypeInfo} (ht : P.underlying t = some (.slice e)) (hi : P.info? e = some i) (A : Option Addr) (n c : Nat) (j : Int) (h0 : 0 ≤ j) (hm : j ≤ c) :
  ∀ W : World, (Instr.slice t (.slice A n c) none (some (.int kh j)) none).run P W = .ok (.slice A j.toNat c) W := by
 intro W; have hel : P.elem t = e := by simp [Program.elem, ht]
 have hu : P.underlying t = some (.slice (P.elem t)) := by rw [hel]; exact ht
 have ha : (A.map fun x => x.add 0) = A := by cases A <;> simp [Addr.add]
 rw [run_slice_h W t A n c hu kh j h0 (by omega), hel]
 simp [sizeOf, typeInfo, hi, sliced, ha, Result.andThen]
theorem at_last {α : Type} {k : Kd α} {W : World} {A : Option Addr} {n : Nat} {xs : List α} {x : α} (h : k.C W A (n + 1) (xs ++ [x])) (hn : xs.length = n) : ∃ ad cs, A = some ad ∧ k.K W x cs ∧ ∀ j u, cs[j]? = some u → W.cell? (ad.add (n * k.sz + j)) = some u := by
 obtain ⟨ad, cs, e, -, hK, hcc⟩ := Kd.C_get h x (n : Int) (Int.natCast_nonneg _) (by omega)
 rw [Int.toNat_natCast] at hK hcc; refine ⟨ad, cs, e, ?_, hcc⟩; rw [List.getD_eq_getElem?_getD, List.getElem?_append_right (by omega), hn, Nat.sub_self] at hK
 exact hK
theorem at_kPC {W : World} {A : Option Addr} {n : Nat} {hs : List (Int × HD)} (h : kP.C W A n hs) {i : Nat} {x : Int × HD} (hx : hs[i]? = some x) : ∃ ad, A = some ad ∧ W.cell? (ad.add (i * 2)) = some (.int .i64 x.1) ∧ W.cell? ⟨(ad.add (i * 2)).block, (ad.add (i * 2)).off + 1, none⟩ = some (hdr x.2) := by
 have hi := (List.getElem?_eq_some_iff.1 hx).1; have hl : hs.length = n := h.1; obtain ⟨ad, cs, e1, hcl, hK, hcc⟩ := Kd.C_get h (0, (none, 0, 0)) (i : Int) (Int.natCast_nonneg _) (by omega)
 rw [Int.toNat_natCast, List.getD_eq_getElem?_getD, hx] at hK; obtain ⟨c0, c1, rfl, rfl, rfl⟩ := hK; have h0 := hcc 0 _ rfl; have h1 := hcc 1 _ rfl; rw [Int.toNat_natCast] at h0 h1; exact ⟨ad, e1, h0, by rw [← add_field _ _ 1 (by omega)]; exact h1⟩
set_option maxRecDepth 100000 in
set_option maxHeartbeats 8000000 in
theorem spared_any (A : Option Addr) (c : Nat) (l : List S112) (B : Option Addr) (d : Nat) (m : List S115) (C : Option Addr) (e : Nat) (ps : List S77) (A' : Option Addr) (c' : Nat) (B' : Option Addr) (d' : Nat) (C' : Option Addr) (e' : Nat) (hs : List (Int × HD)) (w : World) (hg : GR w A c l B d m C e ps) (hr : Room w A' c' l B' d' m C' e' ps hs) (hl : l.length ≤ 1048576) (hm : m.length ≤ 1048576) (hd : dots ps ≤ 1048576) :
  Calls Tryd.prog 22 #[.agg #[.slice A' l.length c', .slice B' m.length d', .slice C' ps.length e'], .agg #[.slice A l.length c, .slice B m.length d, .slice C ps.length e]] w fun ev w' => ev = .returned (.bool true) ∧ Below w.heap.size w w' := by
 have hlen := dots_len ps; have hb0 := zac (zac (Below.refl w.heap.size w) (.cells #[.slice A' l.length c', .slice B' m.length d', .slice C' ps.length e'] 51)) (.cells #[.slice A l.length c, .slice B m.length d, .slice C ps.length e] 51); have HB0 := Lib.hid hb0; have HG := Lib.hid (hg.below hb0); have HR := Lib.hid (hr.below hb0); have HQ := Lib.hid (hr.below hb0).gr; have HX := Lib.hid (zad (zau w (.cells #[.slice A' l.length c', .slice B' m.length d', .slice C' ps.length e'] 51)) (.cells #[.slice A l.length c, .slice B m.length d, .slice C ps.length e] 51)); have hy := zau (w.alloc (.cells #[.slice A' l.length c', .slice B' m.length d', .slice C' ps.length e'] 51)) (.cells #[.slice A l.length c, .slice B m.length d, .slice C ps.length e] 51); rw [szA] at hy; have HY := Lib.hid hy; have HDT := Lib.hid hd; clear hb0 hg hr hy hd
 go_enter Tryd.func22, Tryd.ntmps22
 go_wp2_with ((with_reducible refine gate_ (.load 51 (.tmp 2)) rfl ?_); refine Hid.out ?_)
 refine Lib.hid ?_; generalize (w.alloc (.cells #[.slice A' l.length c', .slice B' m.length d', .slice C' ps.length e'] 51)).alloc (.cells #[.slice A l.length c, .slice B m.length d, .slice C ps.length e] 51) = w1 at *; generalize w.heap.size + 1 = gy at *; generalize hgxe : w.heap.size = gx at *; have x0 := zaa HX.out 0; have x1 := zaa HX.out 1; have x2 := zaa HX.out 2; have y0 := zaa HY.out 0; have y1 := zaa HY.out 1; have y2 := zaa HY.out 2; simp at x0 x1 x2 y0 y1 y2; have HSG := Lib.hid (sameGram_eq A' c' l B' d' m C' e' ps A c B d C e w1 HQ.out HG.out hl hm HDT.out)
 go_wp2_with (go_at_call 44; refine (HSG.out).mono ?_; rintro e2 w2 ⟨rfl, hb2⟩; refine Hid.out ?_)
 refine Lib.hid ?_; have HB2 := Lib.hid hb2; clear x0 x1 x2 y0 y1 y2 HSG hb2
 go_wp2_with fail
 go_loopw [5] (fun v5 w' => ∃ (i : Nat), v5 = .int .i64 (i : Int) ∧ i ≤ ps.length ∧ Hid (Below w1.heap.size w1 w')) (fun v5 _ => ps.length - (intOf v5).toNat)
 case atStart => exact ⟨0, rfl, Nat.zero_le _, HB2⟩
 case round =>
  clear HB2; obtain ⟨i, rfl, hi, HB⟩ := hrel; have x0 := zaa (zak HX.out HB.out) 0; have x1 := zaa (zak HX.out HB.out) 1; have x2 := zaa (zak HX.out HB.out) 2; have y0 := zaa (zak HY.out HB.out) 0; have y1 := zaa (zak HY.out HB.out) 1; have y2 := zaa (zak HY.out HB.out) 2; simp at x0 x1 x2 y0 y1 y2; by_cases hil : i < ps.length
  ·have hib : decide ((i : Int) < (ps.length : Int)) = true := decide_eq_true (by omega)
   have hi0 : (0 : Int) ≤ (i : Int) := Int.natCast_nonneg _; have hi1 : (i : Int) < (ps.length : Int) := by omega
   have hiw : IntKind.i64.wrap ((i : Int) + 1) = (i : Int) + 1 := IntWalk.i64_in _ (by have := HDT.out; omega)
   have hi2 : i + 1 ≤ ps.length := hil; have hme : ps.length - (i + 1) < ps.length - i := by omega
   obtain ⟨p, hp⟩ : ∃ p, ps[i]? = some p := ⟨_, List.getElem?_eq_getElem hil⟩; obtain ⟨adp, Ap, cp, hCe, -, p1, hcp, -⟩ := at_T77 (HG.out.below HB.out).hC (i : Int) hi0 hi1; have hpe : ps[i] = p := (List.getElem?_eq_some_iff.1 hp).2; rw [Int.toNat_natCast, rdT77_nat ps i hil, hpe] at p1; obtain ⟨A1, c1, h1, h2, h3⟩ := HR.out.row i p hp; obtain ⟨adq, hCq, -, q1⟩ := at_kPC (Kd.zav HR.out.hC HB.out) (i := i) (x := (p.f0, (A1, p.f1.length, c1))) (by rw [List.getElem?_append_left (by have := HR.out.len; omega)]; exact h1)
   simp only [hdr] at q1; obtain ⟨adr, cs, hA1, hK, hcc⟩ := at_last (Kd.zav h3 HB.out) rfl; obtain rfl := k110_open hK; have r0 := hcc 0 _ rfl; have r1 := hcc 1 _ rfl; have r2 := hcc 2 _ rfl; subst hA1; have hrl : p.f1.length < 1048577 := by have := dots_mem (List.mem_of_getElem? hp); have := HDT.out; omega
   obtain ⟨n, hn⟩ : ∃ n, n = p.f1.length := ⟨_, rfl⟩; rw [← hn] at p1 q1 r0 r1 r2 hrl h2; have hnw : IntKind.i64.wrap ((n : Int) + 1) = (n : Int) + 1 := IntWalk.i64_in _ (by omega)
   obtain ⟨i0, hj0, hj0s⟩ := Option.map_eq_some_iff.1 info110; have hcut := cut_room (P := Tryd.prog) 75 110 .i64 Tryd.underlying75 hj0 (some adr) n c1 ((n : Int) + 1) (by omega) (by omega)
   rw [show ((n : Int) + 1).toNat = n + 1 by omega] at hcut
   have hn0 : (0 : Int) ≤ (n : Int) := Int.natCast_nonneg _; have hn1 : (n : Int) < (n : Int) + 1 := by omega
   have r0' : wr.cell? (adr.add (n * 3)) = some (.int .i64 (-77)) := r0; have r1' : wr.cell? ⟨(adr.add (n * 3)).block, (adr.add (n * 3)).off + 1, none⟩ = some (.string ⟨#[]⟩) := by rw [← add_field _ _ 1 (by omega)]; exact r1
   have r2' : wr.cell? ⟨(adr.add (n * 3)).block, (adr.add (n * 3)).off + 2, none⟩ = some (.string ⟨#[]⟩) := by rw [← add_field _ _ 2 (by omega)]; exact r2
   subst hCe; clear r0 r1 r2 hcc hK hp h1 h3 hpe hj0 hj0s hn hcp
   go_wp2_with fail
   go_roundw
   case rel => first | exact ⟨i + 1, by rw [Int.natCast_add]; rfl, hi2, HB⟩ | ((repeat apply Exists.intro); exact ⟨⟨i + 1, by rw [Int.natCast_add]; rfl, hi2, HB⟩, rfl⟩)
   case measure => exact hme
  ·have hib : decide ((i : Int) < (ps.length : Int)) = false := decide_eq_false (by omega)
   have hie : i = ps.length := by omega
   subst hie; have hps := HDT.out; obtain ⟨adT, cT, hAT, hKT, hcT⟩ := at_last (Kd.zav HR.out.hA HB.out) rfl; obtain rfl := k112_open hKT; have t0 : wr.cell? (adT.add (l.length * 2)) = some (.string mkT.f0) := hcT 0 _ rfl; obtain ⟨adS, cS, hAS, hKS, hcS⟩ := at_last (Kd.zav HR.out.hB HB.out) rfl; obtain rfl := k115_open hKS; have s0 : wr.cell? (adS.add (m.length * 2)) = some (.string mkS.f0) := hcS 0 _ rfl; obtain ⟨adP, hAP, p0, p1⟩ := at_kPC (Kd.zav HR.out.hC HB.out) (i := ps.length) (x := (-77, (none, 0, 0))) (by rw [List.getElem?_append_right (by rw [HR.out.len]; exact Nat.le_refl _), HR.out.len, Nat.sub_self]; rfl)
   simp only [hdr] at p1; obtain ⟨i0, hj0, hj0s⟩ := Option.map_eq_some_iff.1 info112; obtain ⟨i1, hj1, hj1s⟩ := Option.map_eq_some_iff.1 info115; obtain ⟨i2, hj2, hj2s⟩ := Option.map_eq_some_iff.1 info77; have hcutT := cut_room (P := Tryd.prog) 47 112 .i64 Tryd.underlying47 hj0 A' l.length c' ((l.length : Int) + 1) (by omega) (by have := HR.out.cA; omega)
   have hcutS := cut_room (P := Tryd.prog) 48 115 .i64 Tryd.underlying48 hj1 B' m.length d' ((m.length : Int) + 1) (by omega) (by have := HR.out.cB; omega)
   have hcutP := cut_room (P := Tryd.prog) 49 77 .i64 Tryd.underlying49 hj2 C' ps.length e' ((ps.length : Int) + 1) (by omega) (by have := HR.out.cC; omega)
   rw [show ((l.length : Int) + 1).toNat = l.length + 1 by omega] at hcutT
   rw [show ((m.length : Int) + 1).toNat = m.length + 1 by omega] at hcutS
   rw [show ((ps.length : Int) + 1).toNat = ps.length + 1 by omega] at hcutP
   subst hAT; subst hAS; subst hAP; have hlw : IntKind.i64.wrap ((l.length : Int) + 1) = (l.length : Int) + 1 := IntWalk.i64_in _ (by omega)
   have hmw : IntKind.i64.wrap ((m.length : Int) + 1) = (m.length : Int) + 1 := IntWalk.i64_in _ (by omega)
   have hpw : IntKind.i64.wrap ((ps.length : Int) + 1) = (ps.length : Int) + 1 := IntWalk.i64_in _ (by omega)
   have l0 : (0 : Int) ≤ (l.length : Int) := Int.natCast_nonneg _; have l1 : (l.length : Int) < (l.length : Int) + 1 := by omega
   have m0 : (0 : Int) ≤ (m.length : Int) := Int.natCast_nonneg _; have m1 : (m.length : Int) < (m.length : Int) + 1 := by omega
   have p0' : (0 : Int) ≤ (ps.length : Int) := Int.natCast_nonneg _; have p1' : (ps.length : Int) < (ps.length : Int) + 1 := by omega
   have t0' : wr.cell? (adT.add (l.length * 2)) = some (.string ⟨#[109, 97, 114, 107]⟩) := t0; have s0' : wr.cell? (adS.add (m.length * 2)) = some (.string ⟨#[109, 97, 114, 107]⟩) := s0; clear t0 s0 hKT hKS hcT hcS hj0 hj0s hj1 hj1s hj2 hj2s
   go_wp2_with fail
   go_ret; refine ⟨rfl, ?_⟩; have h : Below w.heap.size w wr := zam (by rw [hgxe]; exact HB0.out) HB.out
   first | exact h | (rw [← hgxe]; exact h)
end Rm
end Go.Proofs.YtcijanmckhlpiaaDoor
namespace Go.Proofs.YtcijanmckhlpiaaDoor
open Go.RowKit Go.Proofs.YtcijanmckhlpiaaDoorW.PrintWords Go.Proofs.YtcijanmckhlpiaaDoorW.PrintLast Go.Proofs.YtcijanmckhlpiaaDoorW.PrintMore Go.Proofs.YtcijanmckhlpiaaDoor.PTableBuilds
namespace Rm
set_option maxRecDepth 100000 in
set_option maxHeartbeats 4000000 in
theorem same_true (A1 : Option Addr) (c1 : Nat) (rows : List (List S93)) (B1 : Option Addr) (d1 : Nat) (gos : List (List Int)) (A2 : Option Addr) (c2 : Nat) (B2 : Option Addr) (d2 : Nat) (w : World) (h1 : (Kd.slice 93 k93).C w A1 rows.length rows) (h2 : (Kd.slice 3 (Kd.int .i64)).C w B1 gos.length gos) (h3 : (Kd.slice 93 k93).C w A2 rows.length rows) (h4 : (Kd.slice 3 (Kd.int .i64)).C w B2 gos.length gos) (hn : rows.length ≤ 1000000) (hm : gos.length ≤ 1000000) :
  Calls Tryd.prog 12 #[.agg #[.slice A1 rows.length c1, .slice B1 gos.length d1], .agg #[.slice A2 rows.length c2, .slice B2 gos.length d2]] w fun e w' => e = .returned (.bool true) ∧ Below w.heap.size w w' := by
 have hb0 := zac (zac (Below.refl w.heap.size w) (.cells #[.slice A1 rows.length c1, .slice B1 gos.length d1] 25)) (.cells #[.slice A2 rows.length c2, .slice B2 gos.length d2] 25); have R1 := Lib.hid (Kd.zav h1 hb0); have R2 := Lib.hid (Kd.zav h2 hb0); have R3 := Lib.hid (Kd.zav h3 hb0); have R4 := Lib.hid (Kd.zav h4 hb0); have HB0 := Lib.hid hb0; have X1 := Lib.hid (zad (zau w (.cells #[.slice A1 rows.length c1, .slice B1 gos.length d1] 25)) (.cells #[.slice A2 rows.length c2, .slice B2 gos.length d2] 25)); have hrb := zau (w.alloc (.cells #[.slice A1 rows.length c1, .slice B1 gos.length d1] 25)) (.cells #[.slice A2 rows.length c2, .slice B2 gos.length d2] 25); rw [Bld.szA] at hrb; have X2 := Lib.hid hrb; clear hb0 h1 h2 h3 h4 hrb
 go_enter Tryd.func12, Tryd.ntmps12
 go_wp2_with ((with_reducible refine gate_ (.fieldAddr 25 (.tmp 2) 0) rfl ?_); refine Hid.out ?_)
 refine Lib.hid ?_; generalize (w.alloc (.cells #[.slice A1 rows.length c1, .slice B1 gos.length d1] 25)).alloc (.cells #[.slice A2 rows.length c2, .slice B2 gos.length d2] 25) = V at *; generalize w.heap.size + 1 = b2 at *; have y10 := zaa X1.out 0; have y11 := zaa X1.out 1; have y20 := zaa X2.out 0; have y21 := zaa X2.out 1; simp at y10 y11 y20 y21
 go_wp2_with fail
 clear y10 y11 y20 y21
 go_loopw [5] (fun v w' => ∃ i : Nat, v = .int .i64 (i : Int) ∧ i ≤ rows.length ∧ Hid (Below V.heap.size V w')) (fun v _ => rows.length - (intOf v).toNat)
 case atStart => exact ⟨0, rfl, Nat.zero_le _, Lib.hid (Below.refl _ _)⟩
 case round =>
  obtain ⟨i, rfl, hi, HB⟩ := hrel; have y10 := zaa (zak X1.out HB.out) 0; have y11 := zaa (zak X1.out HB.out) 1; have y20 := zaa (zak X2.out HB.out) 0; have y21 := zaa (zak X2.out HB.out) 1; simp at y10 y11 y20 y21; by_cases hil : i < rows.length
  ·have hib : decide ((i : Int) < (rows.length : Int)) = true := decide_eq_true (by omega)
   have hi0 : (0 : Int) ≤ (i : Int) := Int.natCast_nonneg _; have hi1 : (i : Int) < (rows.length : Int) := by omega
   have hiw : IntKind.i64.wrap ((i : Int) + 1) = (i : Int) + 1 := IntWalk.i64_in _ (by omega)
   have hi2 : i + 1 ≤ rows.length := hil; have hme : rows.length - (i + 1) < rows.length - i := by omega
   obtain ⟨a1, E1, e1, rfl, s1, -, C1⟩ := at_L2 (Kd.zav R1.out HB.out) (i : Int) hi0 hi1; obtain ⟨a2, E2, e2, rfl, s2, -, C2⟩ := at_L2 (Kd.zav R3.out HB.out) (i : Int) hi0 hi1; rw [Int.toNat_natCast] at s1 s2; have hrl := C1.1; have hrm := C1.2.1; generalize rd_L2 rows (i : Int) = row at *; have D1 := Lib.hid C1; have D2 := Lib.hid C2; clear C1 C2
   go_wp2_with fail
   refine wp_region_quiet_lit (by kernel_rfl) (by kernel_rfl) ?_
   repeat (go_big_quiet_step (fail))
   refine wpQuiet_nil ?_; intro _ hw1; obtain ⟨nq, hw2⟩ := hw1; subst hw2; have HB1 := Lib.hid (zab HB.out nq); clear y10 y11 y20 y21
   go_wp2_with fail
   go_loopw [6] (fun v w' => ∃ k : Nat, v = .int .i64 (k : Int) ∧ k ≤ row.length ∧ Hid (Below V.heap.size V w') ∧ Hid (Below wr.heap.size wr w')) (fun v _ => row.length - (intOf v).toNat)
   case atStart => exact ⟨0, rfl, Nat.zero_le _, HB1, Lib.hid (zab (Below.refl _ _) nq)⟩
   case round =>
    clear HB HB1; have t1 := s1; have t2 := s2; clear s1 s2; obtain ⟨k, rfl, hk, HB, HC⟩ := hrel; have y10 := zaa (zak X1.out HB.out) 0; have y11 := zaa (zak X1.out HB.out) 1; have y20 := zaa (zak X2.out HB.out) 0; have y21 := zaa (zak X2.out HB.out) 1; simp at y10 y11 y20 y21; have s1 := zan HC.out t1; have s2 := zan HC.out t2; have hk0 : (0 : Int) ≤ (k : Int) := Int.natCast_nonneg _; by_cases hkl : k < row.length
    ·have hkb : decide ((k : Int) < (row.length : Int)) = true := decide_eq_true (by omega)
     have hk1 : (k : Int) < (row.length : Int) := by omega
     have hkw : IntKind.i64.wrap ((k : Int) + 1) = (k : Int) + 1 := IntWalk.i64_in _ (by omega)
     have hk2 : k + 1 ≤ row.length := hkl; have hmf : row.length - (k + 1) < row.length - k := by omega
     obtain ⟨u1, rfl, p1, q1⟩ := at_T93 D1.out (k : Int) hk0 hk1; obtain ⟨u2, rfl, p2, q2⟩ := at_T93 D2.out (k : Int) hk0 hk1; rw [Int.toNat_natCast] at p1 q1 p2 q2; replace p1 := zan HC.out p1; replace p2 := zan HC.out p2; replace q1 := zan HC.out q1; replace q2 := zan HC.out q2; generalize rd_T93 row (k : Int) = x at *
     go_wp2_with fail
     refine wp_region_quiet_lit (by kernel_rfl) (by kernel_rfl) ?_
     repeat (go_big_quiet_step (fail))
     refine wpQuiet_nil ?_; intro _ hw1; obtain ⟨nq, hw2⟩ := hw1; subst hw2; have HB1 := Lib.hid (zab HB.out nq); have HC1 := Lib.hid (zab HC.out nq); clear y10 y11 y20 y21 p1 p2 q1 q2
     go_wp2_with fail
     go_roundw
     case rel => first | exact ⟨k + 1, by rw [Int.natCast_add]; rfl, hk2, HB1, HC1⟩ | ((repeat apply Exists.intro); exact ⟨⟨k + 1, by rw [Int.natCast_add]; rfl, hk2, HB1, HC1⟩, rfl⟩)
     case measure => exact hmf
    ·have hkb : decide ((k : Int) < (row.length : Int)) = false := decide_eq_false (by omega)
     go_wp2_with fail
     go_roundw
     case rel => first | exact ⟨i + 1, by rw [Int.natCast_add]; rfl, hi2, HB⟩ | ((repeat apply Exists.intro); exact ⟨⟨i + 1, by rw [Int.natCast_add]; rfl, hi2, HB⟩, rfl⟩)
     case measure => exact hme
  ·have hib : decide ((i : Int) < (rows.length : Int)) = false := decide_eq_false (by omega)
   go_wp2_with fail
   clear y10 y11 y20 y21
   go_loopw [7] (fun v w' => ∃ i : Nat, v = .int .i64 (i : Int) ∧ i ≤ gos.length ∧ Hid (Below V.heap.size V w')) (fun v _ => gos.length - (intOf v).toNat)
   case atStart => exact ⟨0, rfl, Nat.zero_le _, HB⟩
   case round =>
    clear HB; obtain ⟨i, rfl, hi, HB⟩ := hrel; have y10 := zaa (zak X1.out HB.out) 0; have y11 := zaa (zak X1.out HB.out) 1; have y20 := zaa (zak X2.out HB.out) 0; have y21 := zaa (zak X2.out HB.out) 1; simp at y10 y11 y20 y21; by_cases hil : i < gos.length
    ·have hib : decide ((i : Int) < (gos.length : Int)) = true := decide_eq_true (by omega)
     have hi0 : (0 : Int) ≤ (i : Int) := Int.natCast_nonneg _; have hi1 : (i : Int) < (gos.length : Int) := by omega
     have hiw : IntKind.i64.wrap ((i : Int) + 1) = (i : Int) + 1 := IntWalk.i64_in _ (by omega)
     have hi2 : i + 1 ≤ gos.length := hil; have hme : gos.length - (i + 1) < gos.length - i := by omega
     obtain ⟨a1, E1, e1, rfl, s1, -, C1⟩ := at_L3 (Kd.zav R2.out HB.out) (i : Int) hi0 hi1; obtain ⟨a2, E2, e2, rfl, s2, -, C2⟩ := at_L3 (Kd.zav R4.out HB.out) (i : Int) hi0 hi1; rw [Int.toNat_natCast] at s1 s2; have hrl := C1.1; have hrm := C1.2.1; generalize rd_L3 gos (i : Int) = row at *; have D1 := Lib.hid C1; have D2 := Lib.hid C2; clear C1 C2
     go_wp2_with fail
     refine wp_region_quiet_lit (by kernel_rfl) (by kernel_rfl) ?_
     repeat (go_big_quiet_step (fail))
     refine wpQuiet_nil ?_; intro _ hw1; obtain ⟨nq, hw2⟩ := hw1; subst hw2; have HB1 := Lib.hid (zab HB.out nq); clear y10 y11 y20 y21
     go_wp2_with fail
     go_loopw [8] (fun v w' => ∃ k : Nat, v = .int .i64 (k : Int) ∧ k ≤ row.length ∧ Hid (Below V.heap.size V w') ∧ Hid (Below wr.heap.size wr w')) (fun v _ => row.length - (intOf v).toNat)
     case atStart => exact ⟨0, rfl, Nat.zero_le _, HB1, Lib.hid (zab (Below.refl _ _) nq)⟩
     case round =>
      clear HB HB1; have t1 := s1; have t2 := s2; clear s1 s2; obtain ⟨k, rfl, hk, HB, HC⟩ := hrel; have y10 := zaa (zak X1.out HB.out) 0; have y11 := zaa (zak X1.out HB.out) 1; have y20 := zaa (zak X2.out HB.out) 0; have y21 := zaa (zak X2.out HB.out) 1; simp at y10 y11 y20 y21; have s1 := zan HC.out t1; have s2 := zan HC.out t2; have hk0 : (0 : Int) ≤ (k : Int) := Int.natCast_nonneg _; by_cases hkl : k < row.length
      ·have hkb : decide ((k : Int) < (row.length : Int)) = true := decide_eq_true (by omega)
       have hk1 : (k : Int) < (row.length : Int) := by omega
       have hkw : IntKind.i64.wrap ((k : Int) + 1) = (k : Int) + 1 := IntWalk.i64_in _ (by omega)
       have hk2 : k + 1 ≤ row.length := hkl; have hmf : row.length - (k + 1) < row.length - k := by omega
       obtain ⟨u1, cs1, rfl, -, hx1, p1⟩ := Kd.C_get D1.out 0 (k : Int) hk0 hk1; cases hx1; replace p1 := zan HC.out (p1 0 _ rfl); rw [Int.toNat_natCast] at p1; replace p1 : wr.cell? (u1.add (k * 1 + 0)) = some (.int .i64 (row.getD k 0)) := p1; rw [Nat.mul_one, Nat.add_zero] at p1; obtain ⟨u2, cs2, rfl, -, hx2, p2⟩ := Kd.C_get D2.out 0 (k : Int) hk0 hk1; cases hx2; replace p2 := zan HC.out (p2 0 _ rfl); rw [Int.toNat_natCast] at p2; replace p2 : wr.cell? (u2.add (k * 1 + 0)) = some (.int .i64 (row.getD k 0)) := p2; rw [Nat.mul_one, Nat.add_zero] at p2; generalize row.getD k 0 = x at *
       go_wp2_with fail
       refine wp_region_quiet_lit (by kernel_rfl) (by kernel_rfl) ?_
       repeat (go_big_quiet_step (fail))
       refine wpQuiet_nil ?_; intro _ hw1; obtain ⟨nq, hw2⟩ := hw1; subst hw2; have HB1 := Lib.hid (zab HB.out nq); have HC1 := Lib.hid (zab HC.out nq); clear y10 y11 y20 y21 p1 p2
       go_wp2_with fail
       go_roundw
       case rel => first | exact ⟨k + 1, by rw [Int.natCast_add]; rfl, hk2, HB1, HC1⟩ | ((repeat apply Exists.intro); exact ⟨⟨k + 1, by rw [Int.natCast_add]; rfl, hk2, HB1, HC1⟩, rfl⟩)
       case measure => exact hmf
      ·have hkb : decide ((k : Int) < (row.length : Int)) = false := decide_eq_false (by omega)
       go_wp2_with fail
       go_roundw
       case rel => first | exact ⟨i + 1, by rw [Int.natCast_add]; rfl, hi2, HB⟩ | ((repeat apply Exists.intro); exact ⟨⟨i + 1, by rw [Int.natCast_add]; rfl, hi2, HB⟩, rfl⟩)
       case measure => exact hme
    ·have hib : decide ((i : Int) < (gos.length : Int)) = false := decide_eq_false (by omega)
     go_wp2_with fail
     go_ret; exact ⟨rfl, zam HB0.out HB.out⟩
end Rm
end Go.Proofs.YtcijanmckhlpiaaDoor
namespace Go.Proofs.YtcijanmckhlpiaaDoor.PTableBuilds
open Go.RowKit Go.Proofs.YtcijanmckhlpiaaDoorW.PrintWords Go.Proofs.YtcijanmckhlpiaaDoorW.PrintLast Go.Proofs.YtcijanmckhlpiaaDoorW.PrintMore
attribute [local go_sem] max2_int min2_int max_two min_two max_three min_three max_four min_four
def trellisref11_Row.l0 : Nat → List (S110) → Int → List (S112) → List (S115) → List (S77) → Option (Bool)
 | 0, _, _, _, _, _ => none
 | k + 1, x1, x5, x242000, x242001, x242002 => if x5 < (x1.length : Int) then (if 0 ≤ x5 then (if ((zax x1 x5).f0) < 0 then (some false) else (if ((zax x1 x5).f0) ≥ (wrap64 ((x242000.length : Int) + (x242001.length : Int))) then (some false) else (trellisref11_Row.l0 k x1 (wrap64 (x5 + 1)) x242000 x242001 x242002))) else (none)) else (some true)
def trellisref11_Row.f (k : Nat) (l0_0 : List (S112)) (l0_1 : List (S115)) (l0_2 : List (S77)) (l1 : List (S110)) : Option (Bool) := trellisref11_Row.l0 k l1 0 l0_0 l0_1 l0_2
set_option maxHeartbeats 8000000 in
set_option maxRecDepth 100000 in
theorem trellisref11_Row.calls (k : Nat) (A0_0 : Option Addr) (c0_0 : Nat) (l0_0 : List (S112)) (A0_1 : Option Addr) (c0_1 : Nat) (l0_1 : List (S115)) (A0_2 : Option Addr) (c0_2 : Nat) (l0_2 : List (S77)) (A1 : Option Addr) (c1 : Nat) (l1 : List (S110)) (r : Bool) (w : World) (hr0_0 : Kd.C k112 w A0_0 l0_0.length l0_0) (hc0_0 : l0_0.length ≤ c0_0) (hr0_1 : Kd.C k115 w A0_1 l0_1.length l0_1) (hc0_1 : l0_1.length ≤ c0_1) (hr0_2 : Kd.C k77 w A0_2 l0_2.length l0_2) (hc0_2 : l0_2.length ≤ c0_2) (hr1 : Kd.C k110 w A1 l1.length l1) (hc1 : l1.length ≤ c1) (h : trellisref11_Row.f k l0_0 l0_1 l0_2 l1 = some r) :
  Calls Tryd.prog 132 #[.agg #[.slice A0_0 l0_0.length c0_0, .slice A0_1 l0_1.length c0_1, .slice A0_2 l0_2.length c0_2], .slice A1 l1.length c1] w fun e w' => e = .returned (.bool r) ∧ Below w.heap.size w w' := by
 have hu51 := Tryd.underlying51; have HR0_0 := zaj.mk hr0_0; have HC0_0 := zaj.mk hc0_0; clear hr0_0 hc0_0; have HR0_1 := zaj.mk hr0_1; have HC0_1 := zaj.mk hc0_1; clear hr0_1 hc0_1; have HR0_2 := zaj.mk hr0_2; have HC0_2 := zaj.mk hc0_2; clear hr0_2 hc0_2; have HR1 := zaj.mk hr1; have HC1 := zaj.mk hc1; clear hr1 hc1; have HB := zaj.mk (Below.refl w.heap.size w); have H : (trellisref11_Row.l0 k l1 0 l0_0 l0_1 l0_2) = some r := h; clear h; have H' := zaj.mk H; clear H
 go_enter Tryd.func132, Tryd.ntmps132
 go_wp2_with (first | ((with_reducible refine zbg (N := 2) rfl ?_); (try (refine zaz (by rfl) ?_; dsimp only)); refine zbe ?hg (N := 2) ?hd (cs := #[.slice A0_0 l0_0.length c0_0, .slice A0_1 l0_1.length c0_1, .slice A0_2 l0_2.length c0_2]) (t := 51) ?hr ?_; (case hd => rfl); (case hg => rfl); (case hr => first | (go_simp; done) | (go_simp; rfl)); intro gb241 hg w3 hbox hb; have n0_ := zaj.mk (zam (by repeat (first | (with_reducible first | exact HB.out | apply zac | apply zab | apply below_drew1) | exact HB.out)) hb); have n1_ := zaj.mk (hbox); have n2_ := zaj.mk ((by rw [hg]; exact (zao (by repeat (first | (with_reducible first | exact HB.out | apply zac | apply zab | apply below_drew1) | exact HB.out))) : w.heap.size ≤ gb241)); have n3_ := zaj.mk ((by rw [hg]; exact (zao (by repeat (first | (with_reducible first | exact HB.out | apply zac | apply zab | apply below_drew1) | exact HB.out))) : w.heap.size ≤ gb241)); clear HB; have HB := n0_; have BK241 := n1_; have GW241 := n2_; have GE241 := n3_; clear n0_ n1_ n2_ n3_; clear hb hbox hg))
 repeat (go_quiet (first | ((with_reducible refine zbg (N := 2) rfl ?_); (try (refine zaz (by rfl) ?_; dsimp only)); refine zbe ?hg (N := 2) ?hd (cs := #[.slice A0_0 l0_0.length c0_0, .slice A0_1 l0_1.length c0_1, .slice A0_2 l0_2.length c0_2]) (t := 51) ?hr ?_; (case hd => rfl); (case hg => rfl); (case hr => first | (go_simp; done) | (go_simp; rfl)); intro gb241 hg w3 hbox hb; have n0_ := zaj.mk (zam (by repeat (first | (with_reducible first | exact HB.out | apply zac | apply zab | apply below_drew1) | exact HB.out)) hb); have n1_ := zaj.mk (hbox); have n2_ := zaj.mk ((by rw [hg]; exact (zao (by repeat (first | (with_reducible first | exact HB.out | apply zac | apply zab | apply below_drew1) | exact HB.out))) : w.heap.size ≤ gb241)); have n3_ := zaj.mk ((by rw [hg]; exact (zao (by repeat (first | (with_reducible first | exact HB.out | apply zac | apply zab | apply below_drew1) | exact HB.out))) : w.heap.size ≤ gb241)); clear HB; have HB := n0_; have BK241 := n1_; have GW241 := n2_; have GE241 := n3_; clear n0_ n1_ n2_ n3_; clear hb hbox hg)); try go_wp2_with (first | ((with_reducible refine zbg (N := 2) rfl ?_); (try (refine zaz (by rfl) ?_; dsimp only)); refine zbe ?hg (N := 2) ?hd (cs := #[.slice A0_0 l0_0.length c0_0, .slice A0_1 l0_1.length c0_1, .slice A0_2 l0_2.length c0_2]) (t := 51) ?hr ?_; (case hd => rfl); (case hg => rfl); (case hr => first | (go_simp; done) | (go_simp; rfl)); intro gb241 hg w3 hbox hb; have n0_ := zaj.mk (zam (by repeat (first | (with_reducible first | exact HB.out | apply zac | apply zab | apply below_drew1) | exact HB.out)) hb); have n1_ := zaj.mk (hbox); have n2_ := zaj.mk ((by rw [hg]; exact (zao (by repeat (first | (with_reducible first | exact HB.out | apply zac | apply zab | apply below_drew1) | exact HB.out))) : w.heap.size ≤ gb241)); have n3_ := zaj.mk ((by rw [hg]; exact (zao (by repeat (first | (with_reducible first | exact HB.out | apply zac | apply zab | apply below_drew1) | exact HB.out))) : w.heap.size ≤ gb241)); clear HB; have HB := n0_; have BK241 := n1_; have GW241 := n2_; have GE241 := n3_; clear n0_ n1_ n2_ n3_; clear hb hbox hg)))
 go_loopg [5] k (fun kq v5 w' => ∃ (x5_1 : Int), v5 = .int .i64 x5_1 ∧ zaj (trellisref11_Row.l0 kq l1 x5_1 l0_0 l0_1 l0_2 = some r) ∧ zaj (kq ≤ k) ∧ zaj (w'.heap[gb241]? = some (.cells #[(.slice A0_0 l0_0.length c0_0), (.slice A0_1 l0_1.length c0_1), (.slice A0_2 l0_2.length c0_2)] 51 (0, 0))) ∧ zaj (Below w.heap.size w w'))
 case atStart => exact ⟨(0), (by first | rfl | (simp; done) | (simp [*]; done)), H', ⟨Nat.le_refl _⟩, ⟨by (with_reducible repeat (first | apply zai | apply zah | apply zad)); exact BK241.out⟩, ⟨by repeat (first | (with_reducible first | exact HB.out | apply zac | apply zab | apply below_drew1 | refine zaf ?_ GE241.out) | exact HB.out)⟩⟩
 case round =>
  clear H'
  try clear c1
  try clear p2
  obtain ⟨x5_1, rfl, HA, HK1, BK241, HB⟩ := hrel; cases gk with
  | zero => exact absurd HA.out (by simp [trellisref11_Row.l0])
  | succ k1 =>
   have H := HA.out; clear HA; simp only [trellisref11_Row.l0] at H; by_cases c4 : x5_1 < (l1.length : Int)
   ·rw [if_pos c4] at H; have c4b0 : decide (x5_1 < (l1.length : Int)) = true := decide_eq_true c4; clear c4; by_cases c5 : 0 ≤ x5_1
    ·rw [if_pos c5] at H; have c5b0 : decide (0 ≤ x5_1) = true := decide_eq_true c5; clear c5; by_cases c6 : ((zax l1 x5_1).f0) < 0
     ·rw [if_pos c6] at H; have c6b0 : decide (((zax l1 x5_1).f0) < 0) = true := decide_eq_true c6; clear c6; obtain rfl := Option.some.inj H; have p242 : 0 ≤ (x5_1 : Int) := of_decide_eq_true (by first | (with_reducible assumption) | assumption)
      have q242 : x5_1 < (l1.length : Int) := of_decide_eq_true (by first | (with_reducible assumption) | assumption)
      obtain ⟨ad242, e242, hx242_0, hx242_1, hx242_2⟩ := zbm HR1.out x5_1 p242 q242; cases e242; replace hx242_0 := (HB.out.cell (World.block_lt_of_cell? w _ hx242_0)).trans hx242_0; replace hx242_1 := (HB.out.cell (World.block_lt_of_cell? w _ hx242_1)).trans hx242_1; replace hx242_2 := (HB.out.cell (World.block_lt_of_cell? w _ hx242_2)).trans hx242_2; replace p242 := eq_true p242; replace q242 := eq_true q242; go_wp2
      repeat (go_quiet (fail); try go_wp2)
      go_ret; exact ⟨by first | rfl | (simp [errW_none, errW_some] <;> rfl) | (simp [*, errW_none, errW_some] <;> rfl), by repeat (first | (with_reducible first | exact HB.out | apply zac | apply zab | apply below_drew1 | refine zaf ?_ GE241.out) | exact HB.out)⟩
     ·rw [if_neg c6] at H; have c6b0 : decide (((zax l1 x5_1).f0) < 0) = false := decide_eq_false c6; clear c6; by_cases c7 : ((zax l1 x5_1).f0) ≥ (wrap64 ((l0_0.length : Int) + (l0_1.length : Int)))
      ·rw [if_pos c7] at H; have c7b0 : decide ((wrap64 ((l0_0.length : Int) + (l0_1.length : Int))) ≤ ((zax l1 x5_1).f0)) = true := decide_eq_true c7; clear c7; obtain rfl := Option.some.inj H; have p242 : 0 ≤ (x5_1 : Int) := of_decide_eq_true (by first | (with_reducible assumption) | assumption)
       have q242 : x5_1 < (l1.length : Int) := of_decide_eq_true (by first | (with_reducible assumption) | assumption)
       obtain ⟨ad242, e242, hx242_0, hx242_1, hx242_2⟩ := zbm HR1.out x5_1 p242 q242; cases e242; replace hx242_0 := (HB.out.cell (World.block_lt_of_cell? w _ hx242_0)).trans hx242_0; replace hx242_1 := (HB.out.cell (World.block_lt_of_cell? w _ hx242_1)).trans hx242_1; replace hx242_2 := (HB.out.cell (World.block_lt_of_cell? w _ hx242_2)).trans hx242_2; replace p242 := eq_true p242; replace q242 := eq_true q242; have p243 : 0 ≤ (x5_1 : Int) := of_decide_eq_true (by first | (with_reducible assumption) | assumption)
       have q243 : x5_1 < (l1.length : Int) := of_decide_eq_true (by first | (with_reducible assumption) | assumption)
       obtain ⟨ad243, e243, hx243_0, hx243_1, hx243_2⟩ := zbm HR1.out x5_1 p243 q243; obtain rfl : ad242 = ad243 := (by injection e243)
       replace hx243_0 := (HB.out.cell (World.block_lt_of_cell? w _ hx243_0)).trans hx243_0; replace hx243_1 := (HB.out.cell (World.block_lt_of_cell? w _ hx243_1)).trans hx243_1; replace hx243_2 := (HB.out.cell (World.block_lt_of_cell? w _ hx243_2)).trans hx243_2; replace p243 := eq_true p243; replace q243 := eq_true q243; have hcz8_0 : wr.cell? ⟨gb241, 0, none⟩ = some (.slice A0_0 l0_0.length c0_0) := (zaa BK241.out 0).trans rfl; have hcz8_1 : wr.cell? ⟨gb241, 1, none⟩ = some (.slice A0_1 l0_1.length c0_1) := (zaa BK241.out 1).trans rfl; have hcz8_2 : wr.cell? ⟨gb241, 2, none⟩ = some (.slice A0_2 l0_2.length c0_2) := (zaa BK241.out 2).trans rfl; have hfz8_0 := zae BK241.out 0; have hfz8_1 := zae BK241.out 1; have hfz8_2 := zae BK241.out 2; go_wp2
       repeat (go_quiet (fail); try go_wp2)
       go_ret; exact ⟨by first | rfl | (simp [errW_none, errW_some] <;> rfl) | (simp [*, errW_none, errW_some] <;> rfl), by repeat (first | (with_reducible first | exact HB.out | apply zac | apply zab | apply below_drew1 | refine zaf ?_ GE241.out) | exact HB.out)⟩
      ·rw [if_neg c7] at H; have c7b0 : decide ((wrap64 ((l0_0.length : Int) + (l0_1.length : Int))) ≤ ((zax l1 x5_1).f0)) = false := decide_eq_false c7; clear c7; have H' := zaj.mk H; clear H; have p242 : 0 ≤ (x5_1 : Int) := of_decide_eq_true (by first | (with_reducible assumption) | assumption)
       have q242 : x5_1 < (l1.length : Int) := of_decide_eq_true (by first | (with_reducible assumption) | assumption)
       obtain ⟨ad242, e242, hx242_0, hx242_1, hx242_2⟩ := zbm HR1.out x5_1 p242 q242; cases e242; replace hx242_0 := (HB.out.cell (World.block_lt_of_cell? w _ hx242_0)).trans hx242_0; replace hx242_1 := (HB.out.cell (World.block_lt_of_cell? w _ hx242_1)).trans hx242_1; replace hx242_2 := (HB.out.cell (World.block_lt_of_cell? w _ hx242_2)).trans hx242_2; replace p242 := eq_true p242; replace q242 := eq_true q242; have p243 : 0 ≤ (x5_1 : Int) := of_decide_eq_true (by first | (with_reducible assumption) | assumption)
       have q243 : x5_1 < (l1.length : Int) := of_decide_eq_true (by first | (with_reducible assumption) | assumption)
       obtain ⟨ad243, e243, hx243_0, hx243_1, hx243_2⟩ := zbm HR1.out x5_1 p243 q243; obtain rfl : ad242 = ad243 := (by injection e243)
       replace hx243_0 := (HB.out.cell (World.block_lt_of_cell? w _ hx243_0)).trans hx243_0; replace hx243_1 := (HB.out.cell (World.block_lt_of_cell? w _ hx243_1)).trans hx243_1; replace hx243_2 := (HB.out.cell (World.block_lt_of_cell? w _ hx243_2)).trans hx243_2; replace p243 := eq_true p243; replace q243 := eq_true q243; have hcz9_0 : wr.cell? ⟨gb241, 0, none⟩ = some (.slice A0_0 l0_0.length c0_0) := (zaa BK241.out 0).trans rfl; have hcz9_1 : wr.cell? ⟨gb241, 1, none⟩ = some (.slice A0_1 l0_1.length c0_1) := (zaa BK241.out 1).trans rfl; have hcz9_2 : wr.cell? ⟨gb241, 2, none⟩ = some (.slice A0_2 l0_2.length c0_2) := (zaa BK241.out 2).trans rfl; have hfz9_0 := zae BK241.out 0; have hfz9_1 := zae BK241.out 1; have hfz9_2 := zae BK241.out 2; go_wp2
       repeat (go_quiet (fail); try go_wp2)
       go_roundg k1
       case measure => have := HK1.out; omega
       case rel => exact ⟨(wrap64 (x5_1 + 1)), (by first | rfl | (simp; done) | (simp [*]; done)), H', ⟨by have := HK1.out; omega⟩, ⟨by (with_reducible repeat (first | apply zai | apply zah | apply zad)); exact BK241.out⟩, ⟨by repeat (first | (with_reducible first | exact HB.out | apply zac | apply zab | apply below_drew1 | refine zaf ?_ GE241.out) | exact HB.out)⟩⟩
    ·rw [if_neg c5] at H; exact absurd H (by simp)
   ·rw [if_neg c4] at H; have c4b0 : decide (x5_1 < (l1.length : Int)) = false := decide_eq_false c4; clear c4; obtain rfl := Option.some.inj H; go_wp2
    repeat (go_quiet (fail); try go_wp2)
    go_ret; exact ⟨by first | rfl | (simp [errW_none, errW_some] <;> rfl) | (simp [*, errW_none, errW_some] <;> rfl), by repeat (first | (with_reducible first | exact HB.out | apply zac | apply zab | apply below_drew1 | refine zaf ?_ GE241.out) | exact HB.out)⟩
mutual
def trellisref11_Sound.j0 : Nat → Bool → List (S112) → List (S115) → List (S77) → Option (Bool)
 | 0, _, _, _, _ => none
 | k + 1, x20, x245000, x245001, x245002 => if x20 = true then (some false) else (trellisref11_Sound.l0 k 0 x245000 x245001 x245002)
def trellisref11_Sound.l0 : Nat → Int → List (S112) → List (S115) → List (S77) → Option (Bool)
 | 0, _, _, _, _ => none
 | k + 1, x3, x245000, x245001, x245002 => if x3 < (x245002.length : Int) then (if 0 ≤ x3 then (if ((zal x245002 x3).f0) < (-1) then (some false) else (if ((zal x245002 x3).f0) ≥ (x245001.length : Int) then (some false) else ((trellisref11_Row.f k x245000 x245001 x245002 ((zal x245002 x3).f1)).bind fun t247 => (if t247 = true then (trellisref11_Sound.l0 k (wrap64 (x3 + 1)) x245000 x245001 x245002) else (some false))))) else (none)) else (some true)
end
def trellisref11_Sound.f (k : Nat) (l0_0 : List (S112)) (l0_1 : List (S115)) (l0_2 : List (S77)) : Option (Bool) := if (l0_0.length : Int) < 1 then (trellisref11_Sound.j0 k true l0_0 l0_1 l0_2) else (if (l0_0.length : Int) > 64 then (trellisref11_Sound.j0 k true l0_0 l0_1 l0_2) else (trellisref11_Sound.j0 k (decide ((l0_1.length : Int) > 128)) l0_0 l0_1 l0_2))
set_option maxHeartbeats 8000000 in
set_option maxRecDepth 100000 in
theorem trellisref11_Sound.calls (k : Nat) (A0_0 : Option Addr) (c0_0 : Nat) (l0_0 : List (S112)) (A0_1 : Option Addr) (c0_1 : Nat) (l0_1 : List (S115)) (A0_2 : Option Addr) (c0_2 : Nat) (l0_2 : List (S77)) (r : Bool) (w : World) (hr0_0 : Kd.C k112 w A0_0 l0_0.length l0_0) (hc0_0 : l0_0.length ≤ c0_0) (hr0_1 : Kd.C k115 w A0_1 l0_1.length l0_1) (hc0_1 : l0_1.length ≤ c0_1) (hr0_2 : Kd.C k77 w A0_2 l0_2.length l0_2) (hc0_2 : l0_2.length ≤ c0_2) (h : trellisref11_Sound.f k l0_0 l0_1 l0_2 = some r) :
  Calls Tryd.prog 122 #[.agg #[.slice A0_0 l0_0.length c0_0, .slice A0_1 l0_1.length c0_1, .slice A0_2 l0_2.length c0_2]] w fun e w' => e = .returned (.bool r) ∧ Below w.heap.size w w' := by
 have hu51 := Tryd.underlying51; have hu77 := Tryd.underlying77; have HR0_0 := zaj.mk hr0_0; have HC0_0 := zaj.mk hc0_0; clear hr0_0 hc0_0; have HR0_1 := zaj.mk hr0_1; have HC0_1 := zaj.mk hc0_1; clear hr0_1 hc0_1; have HR0_2 := zaj.mk hr0_2; have HC0_2 := zaj.mk hc0_2; clear hr0_2 hc0_2; have HB := zaj.mk (Below.refl w.heap.size w); have H : (if (l0_0.length : Int) < 1 then (trellisref11_Sound.j0 k true l0_0 l0_1 l0_2) else (if (l0_0.length : Int) > 64 then (trellisref11_Sound.j0 k true l0_0 l0_1 l0_2) else (trellisref11_Sound.j0 k (decide ((l0_1.length : Int) > 128)) l0_0 l0_1 l0_2))) = some r := h
 clear h; have HC2 := zaj.mk H; clear H
 go_enter Tryd.func122, Tryd.ntmps122
 go_upto_region 1 with (first | ((with_reducible refine zbg (N := 1) rfl ?_); (try (refine zaz (by rfl) ?_; dsimp only)); refine zbe ?hg (N := 1) ?hd (cs := #[.slice A0_0 l0_0.length c0_0, .slice A0_1 l0_1.length c0_1, .slice A0_2 l0_2.length c0_2]) (t := 51) ?hr ?_; (case hd => rfl); (case hg => rfl); (case hr => first | (go_simp; done) | (go_simp; rfl)); intro gb244 hg w3 hbox hb; have n0_ := zaj.mk (zam (by repeat (first | (with_reducible first | exact HB.out | apply zac | apply zab | apply below_drew1) | exact HB.out)) hb); have n1_ := zaj.mk (hbox); have n2_ := zaj.mk ((by rw [hg]; exact (zao (by repeat (first | (with_reducible first | exact HB.out | apply zac | apply zab | apply below_drew1) | exact HB.out))) : w.heap.size ≤ gb244)); have n3_ := zaj.mk ((by rw [hg]; exact (zao (by repeat (first | (with_reducible first | exact HB.out | apply zac | apply zab | apply below_drew1) | exact HB.out))) : w.heap.size ≤ gb244)); clear HB; have HB := n0_; have BK244 := n1_; have GW244 := n2_; have GE244 := n3_; clear n0_ n1_ n2_ n3_; clear hb hbox hg))
 (try simp only [Act.put, List.setIfInBounds_toArray, List.set_cons_zero, List.set_cons_succ])
 go_cut [20] (fun v20 wc => ∃ (kq : Nat) (x20_1 : Bool), v20 = .bool x20_1 ∧ zaj (trellisref11_Sound.j0 kq x20_1 l0_0 l0_1 l0_2 = some r) ∧ zaj (kq ≤ k) ∧ zaj (wc.heap[gb244]? = some (.cells #[(.slice A0_0 l0_0.length c0_0), (.slice A0_1 l0_1.length c0_1), (.slice A0_2 l0_2.length c0_2)] 51 (0, 0))) ∧ zaj (Below w.heap.size w wc))
 case first =>
  have H := HC2.out; clear HC2; by_cases c4 : (l0_0.length : Int) < 1
  ·rw [if_pos c4] at H; have c4b0 : decide ((l0_0.length : Int) < 1) = true := decide_eq_true c4; have c4b1 : decide (l0_0.length < 1) = true := decide_eq_true (by omega)
   clear c4
   (first | rw [c4b0] | (simp only [i64_w, i32_w]; rw [c4b0]) | skip)
   have H' := zaj.mk H; clear H; have hcz5_0 : w3.cell? ⟨gb244, 0, none⟩ = some (.slice A0_0 l0_0.length c0_0) := (zaa BK244.out 0).trans rfl; have hcz5_1 : w3.cell? ⟨gb244, 1, none⟩ = some (.slice A0_1 l0_1.length c0_1) := (zaa BK244.out 1).trans rfl; have hcz5_2 : w3.cell? ⟨gb244, 2, none⟩ = some (.slice A0_2 l0_2.length c0_2) := (zaa BK244.out 2).trans rfl; have hfz5_0 := zae BK244.out 0; have hfz5_1 := zae BK244.out 1; have hfz5_2 := zae BK244.out 2; go_wp2
   go_meet
   case rel => exact ⟨_, (true), (by first | rfl | (simp; done) | (simp [*]; done)), H', ⟨by first | omega | exact Nat.le_refl _⟩, ⟨by (with_reducible repeat (first | apply zai | apply zah | apply zad)); exact BK244.out⟩, ⟨by repeat (first | (with_reducible first | exact HB.out | apply zac | apply zab | apply below_drew1 | refine zaf ?_ GE244.out) | exact HB.out)⟩⟩
  ·rw [if_neg c4] at H; have c4b0 : decide ((l0_0.length : Int) < 1) = false := decide_eq_false c4; have c4b1 : decide (l0_0.length < 1) = false := decide_eq_false (by omega)
   clear c4
   (first | rw [c4b0] | (simp only [i64_w, i32_w]; rw [c4b0]) | skip)
   by_cases c6 : (l0_0.length : Int) > 64
   ·rw [if_pos c6] at H; have c6b0 : decide (64 < (l0_0.length : Int)) = true := decide_eq_true c6; have c6b1 : decide (64 < l0_0.length) = true := decide_eq_true (by omega)
    clear c6; have H' := zaj.mk H; clear H; have hcz7_0 : w3.cell? ⟨gb244, 0, none⟩ = some (.slice A0_0 l0_0.length c0_0) := (zaa BK244.out 0).trans rfl; have hcz7_1 : w3.cell? ⟨gb244, 1, none⟩ = some (.slice A0_1 l0_1.length c0_1) := (zaa BK244.out 1).trans rfl; have hcz7_2 : w3.cell? ⟨gb244, 2, none⟩ = some (.slice A0_2 l0_2.length c0_2) := (zaa BK244.out 2).trans rfl; have hfz7_0 := zae BK244.out 0; have hfz7_1 := zae BK244.out 1; have hfz7_2 := zae BK244.out 2; go_wp2
    go_meet
    case rel => exact ⟨_, (true), (by first | rfl | (simp; done) | (simp [*]; done)), H', ⟨by first | omega | exact Nat.le_refl _⟩, ⟨by (with_reducible repeat (first | apply zai | apply zah | apply zad)); exact BK244.out⟩, ⟨by repeat (first | (with_reducible first | exact HB.out | apply zac | apply zab | apply below_drew1 | refine zaf ?_ GE244.out) | exact HB.out)⟩⟩
   ·rw [if_neg c6] at H; have c6b0 : decide (64 < (l0_0.length : Int)) = false := decide_eq_false c6; have c6b1 : decide (64 < l0_0.length) = false := decide_eq_false (by omega)
    clear c6; have H' := zaj.mk H; clear H; have hcz8_0 : w3.cell? ⟨gb244, 0, none⟩ = some (.slice A0_0 l0_0.length c0_0) := (zaa BK244.out 0).trans rfl; have hcz8_1 : w3.cell? ⟨gb244, 1, none⟩ = some (.slice A0_1 l0_1.length c0_1) := (zaa BK244.out 1).trans rfl; have hcz8_2 : w3.cell? ⟨gb244, 2, none⟩ = some (.slice A0_2 l0_2.length c0_2) := (zaa BK244.out 2).trans rfl; have hfz8_0 := zae BK244.out 0; have hfz8_1 := zae BK244.out 1; have hfz8_2 := zae BK244.out 2; go_wp2
    go_meet
    case rel => exact ⟨_, (decide ((l0_1.length : Int) > 128)), (by first | rfl | (simp; done) | (simp [*]; done)), H', ⟨by first | omega | exact Nat.le_refl _⟩, ⟨by (with_reducible repeat (first | apply zai | apply zah | apply zad)); exact BK244.out⟩, ⟨by repeat (first | (with_reducible first | exact HB.out | apply zac | apply zab | apply below_drew1 | refine zaf ?_ GE244.out) | exact HB.out)⟩⟩
 case rest =>
  clear HC2
  try clear c1
  try clear p2
  try clear c4
  try clear c4b0
  try clear c4b1
  try clear c6
  try clear c6b0
  try clear c6b1
  try clear hcz5_0
  try clear hcz5_1
  try clear hcz5_2
  try clear hcz7_0
  try clear hcz7_1
  try clear hcz7_2
  try clear hcz8_0
  try clear hcz8_1
  try clear hcz8_2
  try clear hfz5_0
  try clear hfz5_1
  try clear hfz5_2
  try clear hfz7_0
  try clear hfz7_1
  try clear hfz7_2
  try clear hfz8_0
  try clear hfz8_1
  try clear hfz8_2
  obtain ⟨kq, x20_1, rfl, HA, HJ1, BK244, HB⟩ := hcut; cases kq with
  | zero => exact absurd HA.out (by simp [trellisref11_Sound.j0])
  | succ kj1 =>
   have H := HA.out; clear HA; simp only [trellisref11_Sound.j0] at H; by_cases c9 : x20_1 = true
   ·subst c9; have H1 : (some false) = some r := by rw [if_pos rfl] at H; exact H
    clear H; have H := H1; clear H1; obtain rfl := Option.some.inj H; go_wp2; go_ret; exact ⟨by first | rfl | (simp [errW_none, errW_some] <;> rfl) | (simp [*, errW_none, errW_some] <;> rfl), by repeat (first | (with_reducible first | exact HB.out | apply zac | apply zab | apply below_drew1 | refine zaf ?_ GE244.out) | exact HB.out)⟩
   ·replace c9 := Bool.eq_false_iff.mpr c9; subst c9; have H1 : (trellisref11_Sound.l0 kj1 0 l0_0 l0_1 l0_2) = some r := by rw [if_neg (show ¬ (false = true) by decide)] at H; exact H
    clear H; have H := H1; clear H1; have H' := zaj.mk H; clear H; go_wp2
    go_loopg [3] kj1 (fun kq v3 w' => ∃ (x3_2 : Int), v3 = .int .i64 x3_2 ∧ zaj (trellisref11_Sound.l0 kq x3_2 l0_0 l0_1 l0_2 = some r) ∧ zaj (kq ≤ kj1) ∧ zaj (w'.heap[gb244]? = some (.cells #[(.slice A0_0 l0_0.length c0_0), (.slice A0_1 l0_1.length c0_1), (.slice A0_2 l0_2.length c0_2)] 51 (0, 0))) ∧ zaj (Below w.heap.size w w'))
    case atStart => exact ⟨(0), (by first | rfl | (simp; done) | (simp [*]; done)), H', ⟨Nat.le_refl _⟩, ⟨by (with_reducible repeat (first | apply zai | apply zah | apply zad)); exact BK244.out⟩, ⟨by repeat (first | (with_reducible first | exact HB.out | apply zac | apply zab | apply below_drew1 | refine zaf ?_ GE244.out) | exact HB.out)⟩⟩
    case round =>
     clear H'
     try clear c1
     try clear p2
     try clear c4
     try clear c4b0
     try clear c4b1
     try clear c6
     try clear c6b0
     try clear c6b1
     try clear c9
     try clear hcz5_0
     try clear hcz5_1
     try clear hcz5_2
     try clear hcz7_0
     try clear hcz7_1
     try clear hcz7_2
     try clear hcz8_0
     try clear hcz8_1
     try clear hcz8_2
     try clear hfz5_0
     try clear hfz5_1
     try clear hfz5_2
     try clear hfz7_0
     try clear hfz7_1
     try clear hfz7_2
     try clear hfz8_0
     try clear hfz8_1
     try clear hfz8_2
     try clear p2
     obtain ⟨x3_2, rfl, HA, HK2, BK244, HB⟩ := hrel; cases gk with
     | zero => exact absurd HA.out (by simp [trellisref11_Sound.l0])
     | succ k2 =>
      have H := HA.out; clear HA; simp only [trellisref11_Sound.l0] at H; by_cases c10 : x3_2 < (l0_2.length : Int)
      ·rw [if_pos c10] at H; have c10b0 : decide (x3_2 < (l0_2.length : Int)) = true := decide_eq_true c10; clear c10; by_cases c11 : 0 ≤ x3_2
       ·rw [if_pos c11] at H; have c11b0 : decide (0 ≤ x3_2) = true := decide_eq_true c11; clear c11; by_cases c12 : ((zal l0_2 x3_2).f0) < (-1)
        ·rw [if_pos c12] at H; have c12b0 : decide (((zal l0_2 x3_2).f0) < (-1)) = true := decide_eq_true c12; clear c12; obtain rfl := Option.some.inj H; have hcz13_0 : wr.cell? ⟨gb244, 0, none⟩ = some (.slice A0_0 l0_0.length c0_0) := (zaa BK244.out 0).trans rfl; have hcz13_1 : wr.cell? ⟨gb244, 1, none⟩ = some (.slice A0_1 l0_1.length c0_1) := (zaa BK244.out 1).trans rfl; have hcz13_2 : wr.cell? ⟨gb244, 2, none⟩ = some (.slice A0_2 l0_2.length c0_2) := (zaa BK244.out 2).trans rfl; have hfz13_0 := zae BK244.out 0; have hfz13_1 := zae BK244.out 1; have hfz13_2 := zae BK244.out 2; have p245 : 0 ≤ (x3_2 : Int) := of_decide_eq_true (by first | (with_reducible assumption) | assumption)
         have q245 : x3_2 < (l0_2.length : Int) := of_decide_eq_true (by first | (with_reducible assumption) | assumption)
         obtain ⟨ad245, A245_1, c245_1, e245, hx245_0, hx245_1, hl245_1, hi245_1⟩ := at_T77 HR0_2.out x3_2 p245 q245; cases e245; replace hx245_0 := (HB.out.cell (World.block_lt_of_cell? w _ hx245_0)).trans hx245_0; replace hx245_1 := (HB.out.cell (World.block_lt_of_cell? w _ hx245_1)).trans hx245_1; have HR245_1 := zaj.mk hi245_1; have HC245_1 := zaj.mk hl245_1; clear hi245_1 hl245_1; replace p245 := eq_true p245; replace q245 := eq_true q245
         go_wp2_with (first | ((with_reducible refine zbg (N := 4) rfl ?_); (try (refine zaz (by rfl) ?_; dsimp only)); refine zbe ?hg (N := 4) ?hd (cs := #[.int .i64 0, .slice none 0 0]) (t := 77) ?hr ?_; (case hd => rfl); (case hg => rfl); (case hr => first | (go_simp; done) | (go_simp; rfl)); intro gb246 hg w14 hbox hb; have n0_ := zaj.mk (zak (g := gb244) (o := .cells #[.slice A0_0 l0_0.length c0_0, .slice A0_1 l0_1.length c0_1, .slice (some ad245) l0_2.length c0_2] 51 (0, 0)) (by (with_reducible repeat (first | apply zai | apply zah | apply zad)); exact BK244.out) hb); have n1_ := zaj.mk (zam (by repeat (first | (with_reducible first | exact HB.out | apply zac | apply zab | apply below_drew1 | refine zaf ?_ GE244.out) | exact HB.out)) hb); have n2_ := zaj.mk (hbox); have n3_ := zaj.mk ((by rw [hg]; exact (zao (by repeat (first | (with_reducible first | exact HB.out | apply zac | apply zab | apply below_drew1 | refine zaf ?_ GE244.out) | exact HB.out))) : w.heap.size ≤ gb246)); have n4_ := zaj.mk ((by rw [hg]; exact (zao (by repeat (first | (with_reducible first | exact HB.out | apply zac | apply zab | apply below_drew1 | refine zaf ?_ GE244.out) | exact HB.out))) : w.heap.size ≤ gb246)); have n5_ := zaj.mk ((by rw [hg]; exact Nat.ne_of_lt (zba (g := gb244) (o := .cells #[.slice A0_0 l0_0.length c0_0, .slice A0_1 l0_1.length c0_1, .slice (some ad245) l0_2.length c0_2] 51 (0, 0)) (by (with_reducible repeat (first | apply zai | apply zah | apply zad)); exact BK244.out)) : gb244 ≠ gb246)); have n6_ := zaj.mk ((by rw [hg]; exact Nat.ne_of_gt (zba (g := gb244) (o := .cells #[.slice A0_0 l0_0.length c0_0, .slice A0_1 l0_1.length c0_1, .slice (some ad245) l0_2.length c0_2] 51 (0, 0)) (by (with_reducible repeat (first | apply zai | apply zah | apply zad)); exact BK244.out)) : gb246 ≠ gb244)); clear BK244; clear HB; have BK244 := n0_; have HB := n1_; have BK246 := n2_; have GW246 := n3_; have GE246 := n4_; have NB244_246 := n5_; have NB246_244 := n6_; clear n0_ n1_ n2_ n3_ n4_ n5_ n6_; clear hb hbox hg; have hnb15 := NB246_244.out; have hnc15 := NB244_246.out; have hcz16_0 : w14.cell? ⟨gb246, 0, none⟩ = some (.int .i64 0) := (zaa BK246.out 0).trans rfl; have hcz16_1 : w14.cell? ⟨gb246, 1, none⟩ = some (.slice none 0 0) := (zaa BK246.out 1).trans rfl; have hfz16_0 := zae BK246.out 0; have hfz16_1 := zae BK246.out 1))
         go_ret; exact ⟨by first | rfl | (simp [errW_none, errW_some] <;> rfl) | (simp [*, errW_none, errW_some] <;> rfl), by repeat (first | (with_reducible first | exact HB.out | apply zac | apply zab | apply below_drew1 | refine zaf ?_ GE244.out | refine zaf ?_ GE246.out) | exact HB.out)⟩
        ·rw [if_neg c12] at H; have c12b0 : decide (((zal l0_2 x3_2).f0) < (-1)) = false := decide_eq_false c12; clear c12; by_cases c17 : ((zal l0_2 x3_2).f0) ≥ (l0_1.length : Int)
         ·rw [if_pos c17] at H; have c17b0 : decide ((l0_1.length : Int) ≤ ((zal l0_2 x3_2).f0)) = true := decide_eq_true c17; clear c17; obtain rfl := Option.some.inj H; have hcz18_0 : wr.cell? ⟨gb244, 0, none⟩ = some (.slice A0_0 l0_0.length c0_0) := (zaa BK244.out 0).trans rfl; have hcz18_1 : wr.cell? ⟨gb244, 1, none⟩ = some (.slice A0_1 l0_1.length c0_1) := (zaa BK244.out 1).trans rfl; have hcz18_2 : wr.cell? ⟨gb244, 2, none⟩ = some (.slice A0_2 l0_2.length c0_2) := (zaa BK244.out 2).trans rfl; have hfz18_0 := zae BK244.out 0; have hfz18_1 := zae BK244.out 1; have hfz18_2 := zae BK244.out 2; have p245 : 0 ≤ (x3_2 : Int) := of_decide_eq_true (by first | (with_reducible assumption) | assumption)
          have q245 : x3_2 < (l0_2.length : Int) := of_decide_eq_true (by first | (with_reducible assumption) | assumption)
          obtain ⟨ad245, A245_1, c245_1, e245, hx245_0, hx245_1, hl245_1, hi245_1⟩ := at_T77 HR0_2.out x3_2 p245 q245; cases e245; replace hx245_0 := (HB.out.cell (World.block_lt_of_cell? w _ hx245_0)).trans hx245_0; replace hx245_1 := (HB.out.cell (World.block_lt_of_cell? w _ hx245_1)).trans hx245_1; have HR245_1 := zaj.mk hi245_1; have HC245_1 := zaj.mk hl245_1; clear hi245_1 hl245_1; replace p245 := eq_true p245; replace q245 := eq_true q245
          go_wp2_with (first | ((with_reducible refine zbg (N := 4) rfl ?_); (try (refine zaz (by rfl) ?_; dsimp only)); refine zbe ?hg (N := 4) ?hd (cs := #[.int .i64 0, .slice none 0 0]) (t := 77) ?hr ?_; (case hd => rfl); (case hg => rfl); (case hr => first | (go_simp; done) | (go_simp; rfl)); intro gb246 hg w19 hbox hb; have n0_ := zaj.mk (zak (g := gb244) (o := .cells #[.slice A0_0 l0_0.length c0_0, .slice A0_1 l0_1.length c0_1, .slice (some ad245) l0_2.length c0_2] 51 (0, 0)) (by (with_reducible repeat (first | apply zai | apply zah | apply zad)); exact BK244.out) hb); have n1_ := zaj.mk (zam (by repeat (first | (with_reducible first | exact HB.out | apply zac | apply zab | apply below_drew1 | refine zaf ?_ GE244.out) | exact HB.out)) hb); have n2_ := zaj.mk (hbox); have n3_ := zaj.mk ((by rw [hg]; exact (zao (by repeat (first | (with_reducible first | exact HB.out | apply zac | apply zab | apply below_drew1 | refine zaf ?_ GE244.out) | exact HB.out))) : w.heap.size ≤ gb246)); have n4_ := zaj.mk ((by rw [hg]; exact (zao (by repeat (first | (with_reducible first | exact HB.out | apply zac | apply zab | apply below_drew1 | refine zaf ?_ GE244.out) | exact HB.out))) : w.heap.size ≤ gb246)); have n5_ := zaj.mk ((by rw [hg]; exact Nat.ne_of_lt (zba (g := gb244) (o := .cells #[.slice A0_0 l0_0.length c0_0, .slice A0_1 l0_1.length c0_1, .slice (some ad245) l0_2.length c0_2] 51 (0, 0)) (by (with_reducible repeat (first | apply zai | apply zah | apply zad)); exact BK244.out)) : gb244 ≠ gb246)); have n6_ := zaj.mk ((by rw [hg]; exact Nat.ne_of_gt (zba (g := gb244) (o := .cells #[.slice A0_0 l0_0.length c0_0, .slice A0_1 l0_1.length c0_1, .slice (some ad245) l0_2.length c0_2] 51 (0, 0)) (by (with_reducible repeat (first | apply zai | apply zah | apply zad)); exact BK244.out)) : gb246 ≠ gb244)); clear BK244; clear HB; have BK244 := n0_; have HB := n1_; have BK246 := n2_; have GW246 := n3_; have GE246 := n4_; have NB244_246 := n5_; have NB246_244 := n6_; clear n0_ n1_ n2_ n3_ n4_ n5_ n6_; clear hb hbox hg; have hnb20 := NB246_244.out; have hnc20 := NB244_246.out; have hcz21_0 : w19.cell? ⟨gb246, 0, none⟩ = some (.int .i64 0) := (zaa BK246.out 0).trans rfl; have hcz21_1 : w19.cell? ⟨gb246, 1, none⟩ = some (.slice none 0 0) := (zaa BK246.out 1).trans rfl; have hfz21_0 := zae BK246.out 0; have hfz21_1 := zae BK246.out 1; have hcz22_0 : w19.cell? ⟨gb244, 0, none⟩ = some (.slice A0_0 l0_0.length c0_0) := (zaa BK244.out 0).trans rfl; have hcz22_1 : w19.cell? ⟨gb244, 1, none⟩ = some (.slice A0_1 l0_1.length c0_1) := (zaa BK244.out 1).trans rfl; have hcz22_2 : w19.cell? ⟨gb244, 2, none⟩ = some (.slice (some ad245) l0_2.length c0_2) := (zaa BK244.out 2).trans rfl; have hfz22_0 := zae BK244.out 0; have hfz22_1 := zae BK244.out 1; have hfz22_2 := zae BK244.out 2))
          go_ret; exact ⟨by first | rfl | (simp [errW_none, errW_some] <;> rfl) | (simp [*, errW_none, errW_some] <;> rfl), by repeat (first | (with_reducible first | exact HB.out | apply zac | apply zab | apply below_drew1 | refine zaf ?_ GE244.out | refine zaf ?_ GE246.out) | exact HB.out)⟩
         ·rw [if_neg c17] at H; have c17b0 : decide ((l0_1.length : Int) ≤ ((zal l0_2 x3_2).f0)) = false := decide_eq_false c17; clear c17; replace H := Option.bind_eq_some_iff.mp H; obtain ⟨t247, A230, H⟩ := H; replace H : (if t247 = true then (trellisref11_Sound.l0 k2 (wrap64 (x3_2 + 1)) l0_0 l0_1 l0_2) else (some false)) = some r := H
          have A23 := zaj.mk A230; clear A230; by_cases c24 : t247 = true
          ·subst c24; have H1 : (trellisref11_Sound.l0 k2 (wrap64 (x3_2 + 1)) l0_0 l0_1 l0_2) = some r := by rw [if_pos rfl] at H; exact H
           clear H; have H := H1; clear H1; have H' := zaj.mk H; clear H; have hcz25_0 : wr.cell? ⟨gb244, 0, none⟩ = some (.slice A0_0 l0_0.length c0_0) := (zaa BK244.out 0).trans rfl; have hcz25_1 : wr.cell? ⟨gb244, 1, none⟩ = some (.slice A0_1 l0_1.length c0_1) := (zaa BK244.out 1).trans rfl; have hcz25_2 : wr.cell? ⟨gb244, 2, none⟩ = some (.slice A0_2 l0_2.length c0_2) := (zaa BK244.out 2).trans rfl; have hfz25_0 := zae BK244.out 0; have hfz25_1 := zae BK244.out 1; have hfz25_2 := zae BK244.out 2; have p245 : 0 ≤ (x3_2 : Int) := of_decide_eq_true (by first | (with_reducible assumption) | assumption)
           have q245 : x3_2 < (l0_2.length : Int) := of_decide_eq_true (by first | (with_reducible assumption) | assumption)
           obtain ⟨ad245, A245_1, c245_1, e245, hx245_0, hx245_1, hl245_1, hi245_1⟩ := at_T77 HR0_2.out x3_2 p245 q245; cases e245; replace hx245_0 := (HB.out.cell (World.block_lt_of_cell? w _ hx245_0)).trans hx245_0; replace hx245_1 := (HB.out.cell (World.block_lt_of_cell? w _ hx245_1)).trans hx245_1; have HR245_1 := zaj.mk hi245_1; have HC245_1 := zaj.mk hl245_1; clear hi245_1 hl245_1; replace p245 := eq_true p245; replace q245 := eq_true q245
           go_wp2_with (first | ((with_reducible refine zbg (N := 4) rfl ?_); (try (refine zaz (by rfl) ?_; dsimp only)); refine zbe ?hg (N := 4) ?hd (cs := #[.int .i64 0, .slice none 0 0]) (t := 77) ?hr ?_; (case hd => rfl); (case hg => rfl); (case hr => first | (go_simp; done) | (go_simp; rfl)); intro gb246 hg w26 hbox hb; have n0_ := zaj.mk (zak (g := gb244) (o := .cells #[.slice A0_0 l0_0.length c0_0, .slice A0_1 l0_1.length c0_1, .slice (some ad245) l0_2.length c0_2] 51 (0, 0)) (by (with_reducible repeat (first | apply zai | apply zah | apply zad)); exact BK244.out) hb); have n1_ := zaj.mk (zam (by repeat (first | (with_reducible first | exact HB.out | apply zac | apply zab | apply below_drew1 | refine zaf ?_ GE244.out) | exact HB.out)) hb); have n2_ := zaj.mk (hbox); have n3_ := zaj.mk ((by rw [hg]; exact (zao (by repeat (first | (with_reducible first | exact HB.out | apply zac | apply zab | apply below_drew1 | refine zaf ?_ GE244.out) | exact HB.out))) : w.heap.size ≤ gb246)); have n4_ := zaj.mk ((by rw [hg]; exact (zao (by repeat (first | (with_reducible first | exact HB.out | apply zac | apply zab | apply below_drew1 | refine zaf ?_ GE244.out) | exact HB.out))) : w.heap.size ≤ gb246)); have n5_ := zaj.mk ((by rw [hg]; exact Nat.ne_of_lt (zba (g := gb244) (o := .cells #[.slice A0_0 l0_0.length c0_0, .slice A0_1 l0_1.length c0_1, .slice (some ad245) l0_2.length c0_2] 51 (0, 0)) (by (with_reducible repeat (first | apply zai | apply zah | apply zad)); exact BK244.out)) : gb244 ≠ gb246)); have n6_ := zaj.mk ((by rw [hg]; exact Nat.ne_of_gt (zba (g := gb244) (o := .cells #[.slice A0_0 l0_0.length c0_0, .slice A0_1 l0_1.length c0_1, .slice (some ad245) l0_2.length c0_2] 51 (0, 0)) (by (with_reducible repeat (first | apply zai | apply zah | apply zad)); exact BK244.out)) : gb246 ≠ gb244)); clear BK244; clear HB; have BK244 := n0_; have HB := n1_; have BK246 := n2_; have GW246 := n3_; have GE246 := n4_; have NB244_246 := n5_; have NB246_244 := n6_; clear n0_ n1_ n2_ n3_ n4_ n5_ n6_; clear hb hbox hg; have hnb27 := NB246_244.out; have hnc27 := NB244_246.out; have hcz28_0 : w26.cell? ⟨gb246, 0, none⟩ = some (.int .i64 0) := (zaa BK246.out 0).trans rfl; have hcz28_1 : w26.cell? ⟨gb246, 1, none⟩ = some (.slice none 0 0) := (zaa BK246.out 1).trans rfl; have hfz28_0 := zae BK246.out 0; have hfz28_1 := zae BK246.out 1; have hcz29_0 : w26.cell? ⟨gb244, 0, none⟩ = some (.slice A0_0 l0_0.length c0_0) := (zaa BK244.out 0).trans rfl; have hcz29_1 : w26.cell? ⟨gb244, 1, none⟩ = some (.slice A0_1 l0_1.length c0_1) := (zaa BK244.out 1).trans rfl; have hcz29_2 : w26.cell? ⟨gb244, 2, none⟩ = some (.slice (some ad245) l0_2.length c0_2) := (zaa BK244.out 2).trans rfl; have hfz29_0 := zae BK244.out 0; have hfz29_1 := zae BK244.out 1; have hfz29_2 := zae BK244.out 2) | (go_at_call 132; (with_reducible refine (trellisref11_Row.calls k2 _ _ l0_0 _ _ l0_1 _ _ l0_2 _ _ ((zal l0_2 x3_2).f1) true _ ?side1 ?side2 ?side3 ?side4 ?side5 ?side6 ?side7 ?side8 A23.out).mono ?_); (case side1 => exact Kd.zav HR0_0.out (by repeat (first | (with_reducible first | exact HB.out | apply zac | apply zab | apply below_drew1 | refine zaf ?_ GE244.out | refine zaf ?_ GE246.out) | exact HB.out))); (case side2 => exact HC0_0.out); (case side3 => exact Kd.zav HR0_1.out (by repeat (first | (with_reducible first | exact HB.out | apply zac | apply zab | apply below_drew1 | refine zaf ?_ GE244.out | refine zaf ?_ GE246.out) | exact HB.out))); (case side4 => exact HC0_1.out); (case side5 => exact Kd.zav HR0_2.out (by repeat (first | (with_reducible first | exact HB.out | apply zac | apply zab | apply below_drew1 | refine zaf ?_ GE244.out | refine zaf ?_ GE246.out) | exact HB.out))); (case side6 => exact HC0_2.out); (case side7 => exact Kd.zav HR245_1.out (by repeat (first | (with_reducible first | exact HB.out | apply zac | apply zab | apply below_drew1 | refine zaf ?_ GE244.out | refine zaf ?_ GE246.out) | exact HB.out))); (case side8 => exact HC245_1.out); rintro e w30 ⟨rfl, hb⟩; have n0_ := zaj.mk (zak (g := gb244) (o := .cells #[.slice A0_0 l0_0.length c0_0, .slice A0_1 l0_1.length c0_1, .slice (some ad245) l0_2.length c0_2] 51 (0, 0)) (by (with_reducible repeat (first | apply zai | apply zah | apply zad)); refine zar ?_ NB244_246.out _; (with_reducible repeat (first | apply zai | apply zah | apply zad)); refine zar ?_ NB244_246.out _; (with_reducible repeat (first | apply zai | apply zah | apply zad)); exact BK244.out) hb); have n1_ := zaj.mk (zak (g := gb246) (o := .cells #[.int .i64 ((zal l0_2 x3_2).f0), .slice A245_1 ((zal l0_2 x3_2).f1).length c245_1] 77 (0, 0)) (by (with_reducible repeat (first | apply zai | apply zah | apply zad)); refine zat (cs := #[.int .i64 ((zal l0_2 x3_2).f0), .slice none 0 0]) ?_ 1 _ rfl; (with_reducible repeat (first | apply zai | apply zah | apply zad)); refine zat (cs := #[.int .i64 0, .slice none 0 0]) ?_ 0 _ rfl; (with_reducible repeat (first | apply zai | apply zah | apply zad)); exact BK246.out) hb); have n2_ := zaj.mk (zam (by repeat (first | (with_reducible first | exact HB.out | apply zac | apply zab | apply below_drew1 | refine zaf ?_ GE244.out | refine zaf ?_ GE246.out) | exact HB.out)) hb); clear BK244; clear BK246; clear HB; have BK244 := n0_; have BK246 := n1_; have HB := n2_; clear n0_ n1_ n2_; (try clear hb); (try clear hb2); (try clear hk); (try clear hi)))
           go_roundg k2
           case measure => have := HJ1.out; have := HK2.out; omega
           case rel => exact ⟨(wrap64 (x3_2 + 1)), (by first | rfl | (simp; done) | (simp [*]; done)), H', ⟨by have := HJ1.out; have := HK2.out; omega⟩, ⟨by (with_reducible repeat (first | apply zai | apply zah | apply zad)); exact BK244.out⟩, ⟨by repeat (first | (with_reducible first | exact HB.out | apply zac | apply zab | apply below_drew1 | refine zaf ?_ GE244.out | refine zaf ?_ GE246.out) | exact HB.out)⟩⟩
          ·replace c24 := Bool.eq_false_iff.mpr c24; subst c24; have H1 : (some false) = some r := by rw [if_neg (show ¬ (false = true) by decide)] at H; exact H
           clear H; have H := H1; clear H1; obtain rfl := Option.some.inj H; have hcz31_0 : wr.cell? ⟨gb244, 0, none⟩ = some (.slice A0_0 l0_0.length c0_0) := (zaa BK244.out 0).trans rfl; have hcz31_1 : wr.cell? ⟨gb244, 1, none⟩ = some (.slice A0_1 l0_1.length c0_1) := (zaa BK244.out 1).trans rfl; have hcz31_2 : wr.cell? ⟨gb244, 2, none⟩ = some (.slice A0_2 l0_2.length c0_2) := (zaa BK244.out 2).trans rfl; have hfz31_0 := zae BK244.out 0; have hfz31_1 := zae BK244.out 1; have hfz31_2 := zae BK244.out 2; have p245 : 0 ≤ (x3_2 : Int) := of_decide_eq_true (by first | (with_reducible assumption) | assumption)
           have q245 : x3_2 < (l0_2.length : Int) := of_decide_eq_true (by first | (with_reducible assumption) | assumption)
           obtain ⟨ad245, A245_1, c245_1, e245, hx245_0, hx245_1, hl245_1, hi245_1⟩ := at_T77 HR0_2.out x3_2 p245 q245; cases e245; replace hx245_0 := (HB.out.cell (World.block_lt_of_cell? w _ hx245_0)).trans hx245_0; replace hx245_1 := (HB.out.cell (World.block_lt_of_cell? w _ hx245_1)).trans hx245_1; have HR245_1 := zaj.mk hi245_1; have HC245_1 := zaj.mk hl245_1; clear hi245_1 hl245_1; replace p245 := eq_true p245; replace q245 := eq_true q245
           go_wp2_with (first | ((with_reducible refine zbg (N := 4) rfl ?_); (try (refine zaz (by rfl) ?_; dsimp only)); refine zbe ?hg (N := 4) ?hd (cs := #[.int .i64 0, .slice none 0 0]) (t := 77) ?hr ?_; (case hd => rfl); (case hg => rfl); (case hr => first | (go_simp; done) | (go_simp; rfl)); intro gb246 hg w32 hbox hb; have n0_ := zaj.mk (zak (g := gb244) (o := .cells #[.slice A0_0 l0_0.length c0_0, .slice A0_1 l0_1.length c0_1, .slice (some ad245) l0_2.length c0_2] 51 (0, 0)) (by (with_reducible repeat (first | apply zai | apply zah | apply zad)); exact BK244.out) hb); have n1_ := zaj.mk (zam (by repeat (first | (with_reducible first | exact HB.out | apply zac | apply zab | apply below_drew1 | refine zaf ?_ GE244.out) | exact HB.out)) hb); have n2_ := zaj.mk (hbox); have n3_ := zaj.mk ((by rw [hg]; exact (zao (by repeat (first | (with_reducible first | exact HB.out | apply zac | apply zab | apply below_drew1 | refine zaf ?_ GE244.out) | exact HB.out))) : w.heap.size ≤ gb246)); have n4_ := zaj.mk ((by rw [hg]; exact (zao (by repeat (first | (with_reducible first | exact HB.out | apply zac | apply zab | apply below_drew1 | refine zaf ?_ GE244.out) | exact HB.out))) : w.heap.size ≤ gb246)); have n5_ := zaj.mk ((by rw [hg]; exact Nat.ne_of_lt (zba (g := gb244) (o := .cells #[.slice A0_0 l0_0.length c0_0, .slice A0_1 l0_1.length c0_1, .slice (some ad245) l0_2.length c0_2] 51 (0, 0)) (by (with_reducible repeat (first | apply zai | apply zah | apply zad)); exact BK244.out)) : gb244 ≠ gb246)); have n6_ := zaj.mk ((by rw [hg]; exact Nat.ne_of_gt (zba (g := gb244) (o := .cells #[.slice A0_0 l0_0.length c0_0, .slice A0_1 l0_1.length c0_1, .slice (some ad245) l0_2.length c0_2] 51 (0, 0)) (by (with_reducible repeat (first | apply zai | apply zah | apply zad)); exact BK244.out)) : gb246 ≠ gb244)); clear BK244; clear HB; have BK244 := n0_; have HB := n1_; have BK246 := n2_; have GW246 := n3_; have GE246 := n4_; have NB244_246 := n5_; have NB246_244 := n6_; clear n0_ n1_ n2_ n3_ n4_ n5_ n6_; clear hb hbox hg; have hnb33 := NB246_244.out; have hnc33 := NB244_246.out; have hcz34_0 : w32.cell? ⟨gb246, 0, none⟩ = some (.int .i64 0) := (zaa BK246.out 0).trans rfl; have hcz34_1 : w32.cell? ⟨gb246, 1, none⟩ = some (.slice none 0 0) := (zaa BK246.out 1).trans rfl; have hfz34_0 := zae BK246.out 0; have hfz34_1 := zae BK246.out 1; have hcz35_0 : w32.cell? ⟨gb244, 0, none⟩ = some (.slice A0_0 l0_0.length c0_0) := (zaa BK244.out 0).trans rfl; have hcz35_1 : w32.cell? ⟨gb244, 1, none⟩ = some (.slice A0_1 l0_1.length c0_1) := (zaa BK244.out 1).trans rfl; have hcz35_2 : w32.cell? ⟨gb244, 2, none⟩ = some (.slice (some ad245) l0_2.length c0_2) := (zaa BK244.out 2).trans rfl; have hfz35_0 := zae BK244.out 0; have hfz35_1 := zae BK244.out 1; have hfz35_2 := zae BK244.out 2) | (go_at_call 132; (with_reducible refine (trellisref11_Row.calls k2 _ _ l0_0 _ _ l0_1 _ _ l0_2 _ _ ((zal l0_2 x3_2).f1) false _ ?side1 ?side2 ?side3 ?side4 ?side5 ?side6 ?side7 ?side8 A23.out).mono ?_); (case side1 => exact Kd.zav HR0_0.out (by repeat (first | (with_reducible first | exact HB.out | apply zac | apply zab | apply below_drew1 | refine zaf ?_ GE244.out | refine zaf ?_ GE246.out) | exact HB.out))); (case side2 => exact HC0_0.out); (case side3 => exact Kd.zav HR0_1.out (by repeat (first | (with_reducible first | exact HB.out | apply zac | apply zab | apply below_drew1 | refine zaf ?_ GE244.out | refine zaf ?_ GE246.out) | exact HB.out))); (case side4 => exact HC0_1.out); (case side5 => exact Kd.zav HR0_2.out (by repeat (first | (with_reducible first | exact HB.out | apply zac | apply zab | apply below_drew1 | refine zaf ?_ GE244.out | refine zaf ?_ GE246.out) | exact HB.out))); (case side6 => exact HC0_2.out); (case side7 => exact Kd.zav HR245_1.out (by repeat (first | (with_reducible first | exact HB.out | apply zac | apply zab | apply below_drew1 | refine zaf ?_ GE244.out | refine zaf ?_ GE246.out) | exact HB.out))); (case side8 => exact HC245_1.out); rintro e w36 ⟨rfl, hb⟩; have n0_ := zaj.mk (zak (g := gb244) (o := .cells #[.slice A0_0 l0_0.length c0_0, .slice A0_1 l0_1.length c0_1, .slice (some ad245) l0_2.length c0_2] 51 (0, 0)) (by (with_reducible repeat (first | apply zai | apply zah | apply zad)); refine zar ?_ NB244_246.out _; (with_reducible repeat (first | apply zai | apply zah | apply zad)); refine zar ?_ NB244_246.out _; (with_reducible repeat (first | apply zai | apply zah | apply zad)); exact BK244.out) hb); have n1_ := zaj.mk (zak (g := gb246) (o := .cells #[.int .i64 ((zal l0_2 x3_2).f0), .slice A245_1 ((zal l0_2 x3_2).f1).length c245_1] 77 (0, 0)) (by (with_reducible repeat (first | apply zai | apply zah | apply zad)); refine zat (cs := #[.int .i64 ((zal l0_2 x3_2).f0), .slice none 0 0]) ?_ 1 _ rfl; (with_reducible repeat (first | apply zai | apply zah | apply zad)); refine zat (cs := #[.int .i64 0, .slice none 0 0]) ?_ 0 _ rfl; (with_reducible repeat (first | apply zai | apply zah | apply zad)); exact BK246.out) hb); have n2_ := zaj.mk (zam (by repeat (first | (with_reducible first | exact HB.out | apply zac | apply zab | apply below_drew1 | refine zaf ?_ GE244.out | refine zaf ?_ GE246.out) | exact HB.out)) hb); clear BK244; clear BK246; clear HB; have BK244 := n0_; have BK246 := n1_; have HB := n2_; clear n0_ n1_ n2_; (try clear hb); (try clear hb2); (try clear hk); (try clear hi)))
           go_ret; exact ⟨by first | rfl | (simp [errW_none, errW_some] <;> rfl) | (simp [*, errW_none, errW_some] <;> rfl), by repeat (first | (with_reducible first | exact HB.out | apply zac | apply zab | apply below_drew1 | refine zaf ?_ GE244.out | refine zaf ?_ GE246.out) | exact HB.out)⟩
       ·rw [if_neg c11] at H; exact absurd H (by simp)
      ·rw [if_neg c10] at H; have c10b0 : decide (x3_2 < (l0_2.length : Int)) = false := decide_eq_false c10; clear c10; obtain rfl := Option.some.inj H; have hcz37_0 : wr.cell? ⟨gb244, 0, none⟩ = some (.slice A0_0 l0_0.length c0_0) := (zaa BK244.out 0).trans rfl; have hcz37_1 : wr.cell? ⟨gb244, 1, none⟩ = some (.slice A0_1 l0_1.length c0_1) := (zaa BK244.out 1).trans rfl; have hcz37_2 : wr.cell? ⟨gb244, 2, none⟩ = some (.slice A0_2 l0_2.length c0_2) := (zaa BK244.out 2).trans rfl; have hfz37_0 := zae BK244.out 0; have hfz37_1 := zae BK244.out 1; have hfz37_2 := zae BK244.out 2; go_wp2; go_ret; exact ⟨by first | rfl | (simp [errW_none, errW_some] <;> rfl) | (simp [*, errW_none, errW_some] <;> rfl), by repeat (first | (with_reducible first | exact HB.out | apply zac | apply zab | apply below_drew1 | refine zaf ?_ GE244.out) | exact HB.out)⟩
def trellisref11_goes.l0 : Nat → List Bool → List (S110) → Int → Option (Bool)
 | 0, _, _, _ => none
 | k + 1, x0, x1, x5 => if x5 < (x1.length : Int) then (if 0 ≤ x5 then (if 0 ≤ ((zax x1 x5).f0) then (if ((zax x1 x5).f0) < (x0.length : Int) then (if (rdOf false x0 ((zax x1 x5).f0) = true) then (trellisref11_goes.l0 k x0 x1 (wrap64 (x5 + 1))) else (some false)) else (none)) else (none)) else (none)) else (some true)
def trellisref11_goes.f (k : Nat) (l0 : List Bool) (l1 : List (S110)) : Option (Bool) := trellisref11_goes.l0 k l0 l1 0
set_option maxHeartbeats 8000000 in
set_option maxRecDepth 100000 in
theorem trellisref11_goes.calls (k : Nat) (A0 : Option Addr) (c0 : Nat) (l0 : List Bool) (A1 : Option Addr) (c1 : Nat) (l1 : List (S110)) (r : Bool) (w : World) (hr0 : Kd.C Kd.bool w A0 l0.length l0) (hc0 : l0.length ≤ c0) (hr1 : Kd.C k110 w A1 l1.length l1) (hc1 : l1.length ≤ c1) (h : trellisref11_goes.f k l0 l1 = some r) :
  Calls Tryd.prog 123 #[.slice A0 l0.length c0, .slice A1 l1.length c1] w fun e w' => e = .returned (.bool r) ∧ Drawn0 w w' := by
 have HR0 := zaj.mk hr0; have HC0 := zaj.mk hc0; clear hr0 hc0; have HR1 := zaj.mk hr1; have HC1 := zaj.mk hc1; clear hr1 hc1; have H : (trellisref11_goes.l0 k l0 l1 0) = some r := h; clear h; have H' := zaj.mk H; clear H
 go_enter Tryd.func123, Tryd.ntmps123
 go_wp2
 go_loopg [5] k (fun kq v5 w' => ∃ (x5_1 : Int), v5 = .int .i64 x5_1 ∧ zaj (trellisref11_goes.l0 kq l0 l1 x5_1 = some r) ∧ zaj (kq ≤ k) ∧ Drawn0 w w')
 case atStart => exact ⟨(0), (by first | rfl | (simp; done) | (simp [*]; done)), H', ⟨Nat.le_refl _⟩, by repeat (first | exact Drawn0.refl _ | apply Drawn0.step)⟩
 case round =>
  clear H'
  try clear c1
  try clear p2
  obtain ⟨x5_1, rfl, HA, HK1, ⟨m1, rfl⟩⟩ := hrel; cases gk with
  | zero => exact absurd HA.out (by simp [trellisref11_goes.l0])
  | succ k1 =>
   have H := HA.out; clear HA; simp only [trellisref11_goes.l0] at H; by_cases c3 : x5_1 < (l1.length : Int)
   ·rw [if_pos c3] at H; have c3b0 : decide (x5_1 < (l1.length : Int)) = true := decide_eq_true c3; clear c3; by_cases c4 : 0 ≤ x5_1
    ·rw [if_pos c4] at H; have c4b0 : decide (0 ≤ x5_1) = true := decide_eq_true c4; clear c4; by_cases c5 : 0 ≤ ((zax l1 x5_1).f0)
     ·rw [if_pos c5] at H; have c5b0 : decide (0 ≤ ((zax l1 x5_1).f0)) = true := decide_eq_true c5; clear c5; by_cases c6 : ((zax l1 x5_1).f0) < (l0.length : Int)
      ·rw [if_pos c6] at H; have c6b0 : decide (((zax l1 x5_1).f0) < (l0.length : Int)) = true := decide_eq_true c6; clear c6; obtain ⟨bq7, hbq7⟩ : ∃ b_ : Bool, b_ = (rdOf false l0 ((zax l1 x5_1).f0)) := ⟨_, rfl⟩; replace H : (if (bq7 = true) then (trellisref11_goes.l0 k1 l0 l1 (wrap64 (x5_1 + 1))) else (some false)) = some r := by rw [← hbq7] at H; exact H
       have Nbq7 := zaj.mk hbq7; clear hbq7; by_cases c8 : (bq7 = true)
       ·subst c8; have H1 : (trellisref11_goes.l0 k1 l0 l1 (wrap64 (x5_1 + 1))) = some r := by rw [if_pos rfl] at H; exact H
        clear H; have H := H1; clear H1; have H' := zaj.mk H; clear H; have p248 : 0 ≤ (x5_1 : Int) := of_decide_eq_true (by first | (with_reducible assumption) | assumption)
        have q248 : x5_1 < (l1.length : Int) := of_decide_eq_true (by first | (with_reducible assumption) | assumption)
        obtain ⟨ad248, e248, hx248_0, hx248_1, hx248_2⟩ := zbm HR1.out x5_1 p248 q248; cases e248; replace p248 := eq_true p248; replace q248 := eq_true q248; have p249 : 0 ≤ (((zax l1 x5_1).f0) : Int) := of_decide_eq_true (by first | (with_reducible assumption) | assumption)
        have q249 : ((zax l1 x5_1).f0) < (l0.length : Int) := of_decide_eq_true (by first | (with_reducible assumption) | assumption)
        obtain ⟨ad249, e249, hx249_0⟩ := Kd.at_bool HR0.out ((zax l1 x5_1).f0) p249 q249
        (try rw [← Nbq7.out] at hx249_0)
        cases e249; replace p249 := eq_true p249; replace q249 := eq_true q249; go_wp2
        go_roundg k1
        case measure => have := HK1.out; omega
        case rel => exact ⟨(wrap64 (x5_1 + 1)), (by first | rfl | (simp; done) | (simp [*]; done)), H', ⟨by have := HK1.out; omega⟩, by repeat (first | exact Drawn0.refl _ | apply Drawn0.step)⟩
       ·replace c8 := Bool.eq_false_iff.mpr c8; subst c8; have H1 : (some false) = some r := by rw [if_neg (show ¬ (false = true) by decide)] at H; exact H
        clear H; have H := H1; clear H1; obtain rfl := Option.some.inj H; have p248 : 0 ≤ (x5_1 : Int) := of_decide_eq_true (by first | (with_reducible assumption) | assumption)
        have q248 : x5_1 < (l1.length : Int) := of_decide_eq_true (by first | (with_reducible assumption) | assumption)
        obtain ⟨ad248, e248, hx248_0, hx248_1, hx248_2⟩ := zbm HR1.out x5_1 p248 q248; cases e248; replace p248 := eq_true p248; replace q248 := eq_true q248; have p249 : 0 ≤ (((zax l1 x5_1).f0) : Int) := of_decide_eq_true (by first | (with_reducible assumption) | assumption)
        have q249 : ((zax l1 x5_1).f0) < (l0.length : Int) := of_decide_eq_true (by first | (with_reducible assumption) | assumption)
        obtain ⟨ad249, e249, hx249_0⟩ := Kd.at_bool HR0.out ((zax l1 x5_1).f0) p249 q249
        (try rw [← Nbq7.out] at hx249_0)
        cases e249; replace p249 := eq_true p249; replace q249 := eq_true q249; go_wp2; go_ret; exact ⟨by first | rfl | (simp; done) | (simp [*]; done), by repeat (first | exact Drawn0.refl _ | apply Drawn0.step)⟩
      ·rw [if_neg c6] at H; exact absurd H (by simp)
     ·rw [if_neg c5] at H; exact absurd H (by simp)
    ·rw [if_neg c4] at H; exact absurd H (by simp)
   ·rw [if_neg c3] at H; have c3b0 : decide (x5_1 < (l1.length : Int)) = false := decide_eq_false c3; clear c3; obtain rfl := Option.some.inj H; go_wp2; go_ret; exact ⟨by first | rfl | (simp; done) | (simp [*]; done), by repeat (first | exact Drawn0.refl _ | apply Drawn0.step)⟩
end Go.Proofs.YtcijanmckhlpiaaDoor.PTableBuilds
