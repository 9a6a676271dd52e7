-- Texts of this seat, cut to what is used and merged (by shake.py).
import Derived.Test.YtcijanmckhlpiaaDoorSq6
import Derived.Test.YtcijanmckhlpiaaDoorSq12
import Derived.Test.YtcijanmckhlpiaaDoorSq16
import Derived.Deep.QuietTactic
set_option linter.unusedVariables false
set_option linter.unusedSimpArgs false
namespace Go.Proofs.YtcijanmckhlpiaaDoor
open Go.RowKit Go.Proofs.YtcijanmckhlpiaaDoorW.PrintWords Go.Proofs.YtcijanmckhlpiaaDoorW.PrintLast Go.Proofs.YtcijanmckhlpiaaDoorW.PrintMore Go.Proofs.YtcijanmckhlpiaaDoor.PTableBuilds
namespace Doc
open Bld
def ul (X : List Nat) : Array Value := (X.map fun x => Value.int .u64 ((x : Nat) : Int)).toArray
theorem ul_get {X : List Nat} {k : Nat} (hk : k < X.length) : (ul X)[k]? = some (.int .u64 ((fst X k : Nat) : Int)) := by
 unfold ul fst; rw [List.getElem?_toArray, List.getElem?_map, List.getD_eq_getElem?_getD, List.getElem?_eq_getElem hk]; rfl
theorem ul_set (X : List Nat) (k x : Nat) : (ul X).setIfInBounds k (.int .u64 ((x : Nat) : Int)) = ul (X.set k x) := by
 unfold ul; rw [List.setIfInBounds_toArray, List.map_set]
theorem at_kN {W : World} {A : Option Addr} {n : Nat} {xs : List Nat} (h : kN.C W A n xs) {i : Nat} (hi : i < n) : ∃ ad, A = some ad ∧ W.cell? (ad.add i) = some (.int .i64 ((xs.getD i 0 : Nat) : Int)) := by
 obtain ⟨ad, cs, e, hcl, hK, hcc⟩ := Kd.C_get h 0 (i : Int) (Int.natCast_nonneg _) (by omega)
 have h0 := hcc 0 _ (by rw [show cs = [.int .i64 ((xs.getD (i : Int).toNat 0 : Nat) : Int)] from hK]; rfl)
 rw [Int.toNat_natCast] at h0; have e2 : i * kN.sz + 0 = i := by show i * 1 + 0 = i; omega
 rw [e2] at h0; exact ⟨ad, e, h0⟩
theorem atS_get : ∀ (ps : List S77) (n i : Nat), i < ps.length → (atS n ps).getD i 0 = n + dots (ps.take i)
 | p :: ps, n, 0, _ => by simp [atS, dots]
 | p :: ps, n, i + 1, h => by
  have ih := atS_get ps (n + p.f1.length + 1) i (by simpa using h)
  rw [List.take_succ_cons, dots_cons]; unfold atS; rw [List.getD_cons_succ, ih]; omega
theorem bel_below {w0 w W : World} {sb : Nat} (hb : Below w0.heap.size w0 w) (h : Bel sb w W) (hsb : w0.heap.size ≤ sb) : Below w0.heap.size w0 W :=
 ⟨h.os.trans hb.os, h.tape.trans hb.tape, h.output.trans hb.output, Nat.le_trans hb.size h.size, fun k hk => (h.block k (Nat.lt_of_lt_of_le hk hb.size) (by omega)).trans (hb.block k hk)⟩
structure Xs (N : Nat) (X : List Nat) : Prop where
 len : X.length = N
 lt : ∀ y ∈ X, y < zbi
theorem Xs.or {N : Nat} {X : List Nat} (h : Xs N X) {n x : Nat} (hx : x < zbi) : Xs N (orAt X n x) := ⟨by rw [orAt_len]; exact h.len, fun y hy => by
 rcases List.mem_or_eq_of_mem_set hy with hy | hy
 ·exact h.lt y hy
 ·rw [hy]; exact or_lt (fst_lt h.lt n) hx⟩
theorem looksD_lt {F : List Nat} {V : List Bool} (hF : ∀ x ∈ F, x < zbi) {row : List S110} {x : Nat} (hx : x < zbi) : looksD F V row x < zbi := by
 unfold looksD
 split
 ·exact or_lt (lk_lt hF row) hx
 ·exact lk_lt hF row
def IfT (b : Bool) (p : Prop) : Prop := b = true → p
def IfF (b : Bool) (p : Prop) : Prop := b = false → p
def FlagOf (b : Bool) (p : Prop) : Prop := b = true ↔ p
set_option maxRecDepth 100000 in
set_option maxHeartbeats 8000000 in
theorem dclosed_any {w0 : World} {b : Nat} {A : Option Addr} {c : Nat} {l : List S112} {B : Option Addr} {d : Nat} {m : List S115} {C : Option Addr} {e : Nat} {ps : List S77} {KK nb : Nat} {Nn : List Bool} {Af : Option Addr} {cf : Nat} {FL : List Nat} {Aa : Option Addr} {ca : Nat} (hD : DB w0 b A c l B d m C e ps KK nb Nn Af cf FL Aa ca) (hK : KK = l.length + m.length) (hf : Bld.Fair l.length m.length ps)
  (F : List Nat) (V : List Bool) (hFL : FL = (List.range KK).map (fst F)) (hFt : ∀ x ∈ F, x < zbi) (hNl : Nn.length = KK) (hN : ∀ k, van Nn k = van V k) (hp0 : (zal ps 0).f0 = -1) (sb N : Nat) (hNd : N = dots ps) (X0 r : List Nat) (k : Nat) (hX0 : Xs N X0) (hk : closeD l.length (zbc F V 0 ps) (zbo m.length ps) k X0 = some r) (w : World) (hb : Below w0.heap.size w0 w) (hsb : w0.heap.size ≤ sb) (hS : w.heap[sb]? = some (.cells (ul X0) 128 (0, 0))) :
  Calls Tryd.prog 73 #[.pointer (some ⟨b, 0, none⟩), .slice (some ⟨sb, 0, none⟩) N N] w fun e' w' => e' = .returned (.slice (some ⟨sb, 0, none⟩) N N) ∧ Bel sb w w' ∧ w'.heap[sb]? = some (.cells (ul r) 128 (0, 0)) := by
 have t1 := hf.t1; have t64 := hf.t64; have m128 := hf.m128; have hlen := hf.len; have htot := hf.tot; obtain ⟨sp, hsp⟩ : ∃ sp, sp = zbc F V 0 ps := ⟨_, rfl⟩; obtain ⟨of_, hof⟩ : ∃ of_, of_ = zbo m.length ps := ⟨_, rfl⟩; rw [← hsp, ← hof] at hk; have HD := Lib.hid hD; have HF := Lib.hid hf; have HFL := Lib.hid hFL; have HFT := Lib.hid hFt; have HNL := Lib.hid hNl; have HNV := Lib.hid hN; have HP0 := Lib.hid hp0; have HKK := Lib.hid hK; have HW := Lib.hid hb; have HS0 := Lib.hid hS; have HB0 := Lib.hid (Bel.refl sb w); have HSP := Lib.hid hsp; have HOF := Lib.hid hof; have HX0 := Lib.hid hX0; have HK0 : Hid (IfT true (closeD l.length sp of_ k X0 = some r)) := Lib.hid (fun _ => hk)
 have HK1 : Hid (IfF true (X0 = r)) := Lib.hid (fun h => by cases h)
 have HND := Lib.hid hNd; have hN20 : N ≤ 1048576 := by omega
 clear hD hf hFL hFt hNl hN hp0 hK hb hS hsp hof hX0 hk hNd
 go_enter Tryd.func73, Tryd.ntmps73
 go_wp2_with fail
 go_loopg [5] k (fun kq v5 w' => ∃ (X : List Nat) (bf : Bool), v5 = .bool bf ∧ Hid (Xs N X) ∧ Hid (kq ≤ k) ∧ Hid (IfT bf (closeD l.length sp of_ kq X = some r)) ∧ Hid (IfF bf (X = r)) ∧ Hid (Bel sb w w') ∧ Hid (w'.heap[sb]? = some (.cells (ul X) 128 (0, 0))))
 case atStart => exact ⟨X0, true, rfl, HX0, Lib.hid (Nat.le_refl _), HK0, HK1, HB0, HS0⟩
 case round =>
  clear HX0 HK0 HK1 HB0 HS0; obtain ⟨X, bf, rfl, HX, HKQ, HK, HE, HB, HS⟩ := hrel; cases bf with
  | false =>
   have HXR := Lib.hid (HE.out rfl)
   go_wp2_with fail
   go_ret; exact ⟨rfl, HB.out, by rw [← HXR.out]; exact HS.out⟩
  | true =>
   cases gk with
   | zero => exact absurd (HK.out rfl) (by simp [closeD])
   | succ g =>
   have HST : Hid ((if passC l.length sp of_ (List.range sp.length) X = X then some X else closeD l.length sp of_ g (passC l.length sp of_ (List.range sp.length) X)) = some r) := Lib.hid (HK.out rfl)
   have HQ0 : Hid (passC l.length sp of_ (List.range (dots (ps.take 0))) X = X) := Lib.hid rfl; have HC0 : Hid (FlagOf false (X ≠ X)) := Lib.hid ⟨fun h => (by cases h), fun h => absurd rfl h⟩
   clear HK HE
   go_wp2_with fail
   go_loopw [5, 6] (fun v5 v6 w' => ∃ (i : Nat) (ch : Bool) (X1 : List Nat), v5 = .bool ch ∧ v6 = .int .i64 (i : Int) ∧ i ≤ ps.length ∧ Hid (passC l.length sp of_ (List.range (dots (ps.take i))) X = X1) ∧ Hid (FlagOf ch (X1 ≠ X)) ∧ Hid (Xs N X1) ∧ Hid (Sub X X1) ∧ Hid (Bel sb w w') ∧ Hid (w'.heap[sb]? = some (.cells (ul X1) 128 (0, 0)))) (fun v5 v6 _ => ps.length - (intOf v6).toNat)
   case atStart => exact ⟨0, false, X, rfl, rfl, Nat.zero_le _, HQ0, HC0, HX, Lib.hid (Sub.refl _), HB, HS⟩
   case round =>
    clear HQ0 HC0 HB HS; obtain ⟨i, ch, X1, rfl, rfl, hi, HP, HC, HX1, HSB, HB, HS⟩ := hrel; have HBW := Lib.hid (bel_below HW.out HB.out hsb); have k2 := zaa (zak HD.out.bk HBW.out) 2; simp at k2; by_cases hil : i < ps.length
    ·have hib : decide ((i : Int) < (ps.length : Int)) = true := decide_eq_true (by omega)
     have hi0 : (0 : Int) ≤ (i : Int) := Int.natCast_nonneg _; have hi1 : (i : Int) < (ps.length : Int) := by omega
     have hiw : IntKind.i64.wrap ((i : Int) + 1) = (i : Int) + 1 := IntWalk.i64_in _ (by omega)
     have hi2 : i + 1 ≤ ps.length := hil; have hme : ps.length - (i + 1) < ps.length - i := by omega
     obtain ⟨adp, Ap, cp, hCe, p0, p1, hcp, hrp⟩ := at_T77 HD.out.g.hC (i : Int) hi0 hi1; subst hCe; rw [Int.toNat_natCast] at p0 p1; replace p1 := zan HBW.out p1; rw [rdT77_nat ps i hil] at p1 hcp hrp; have hdl := dots_le hil; have hdt : dots (ps.take (i + 1)) = dots (ps.take i) + ((ps[i]).f1.length + 1) := by rw [List.take_succ_eq_append_getElem hil, dots_snoc]
     have hrow := HF.out.row (List.getElem_mem hil); have HRR := Lib.hid (HF.out.rhs _ (List.getElem_mem hil)); have HRD : Hid (∀ j, j ≤ (ps[i]).f1.length → rdSp sp (dots (ps.take i) + j) = spotF F V i (ps[i]).f1 j) := Lib.hid (fun j hj => by rw [HSP.out]; exact rdSp_get hil hj)
     have HDT := Lib.hid hdt; generalize (ps[i]).f1 = row at *; obtain ⟨at0, hat0⟩ : ∃ a, a = dots (ps.take i) := ⟨_, rfl⟩; rw [← hat0] at HP HRD HDT hdl hdt; have HAT := Lib.hid hat0; have HRP := Lib.hid hrp; have HP' : Hid (passC l.length sp of_ (List.range (at0 + 0)) X = X1) := HP; clear hrp p0 hat0 hdt
     go_wp2_with fail
     go_loopw [5, 8] (fun v5 v8 w' => ∃ (j : Nat) (ch : Bool) (X1 : List Nat), v5 = .bool ch ∧ v8 = .int .i64 (j : Int) ∧ j ≤ row.length ∧ Hid (passC l.length sp of_ (List.range (at0 + j)) X = X1) ∧ Hid (FlagOf ch (X1 ≠ X)) ∧ Hid (Xs N X1) ∧ Hid (Sub X X1) ∧ Hid (Bel sb w w') ∧ Hid (w'.heap[sb]? = some (.cells (ul X1) 128 (0, 0)))) (fun v5 v8 _ => row.length - (intOf v8).toNat)
     case atStart => exact ⟨0, ch, X1, rfl, rfl, Nat.zero_le _, HP', HC, HX1, HSB, HB, HS⟩
     case round =>
      clear HP HP' HC HX1 HSB HB HS HBW p1 k2; obtain ⟨j, ch, X1, rfl, rfl, hj, HP, HC, HX1, HSB, HB, HS⟩ := hrel; have HBW := Lib.hid (bel_below HW.out HB.out hsb); have k0 := zaa (zak HD.out.bk HBW.out) 0; have k2 := zaa (zak HD.out.bk HBW.out) 2; have k5 := zaa (zak HD.out.bk HBW.out) 5; simp at k0 k2 k5; by_cases hjl : j < row.length
      ·have hjb : decide ((j : Int) < (row.length : Int)) = true := decide_eq_true (by omega)
       have hj0 : (0 : Int) ≤ (j : Int) := Int.natCast_nonneg _; have hj1 : (j : Int) < (row.length : Int) := by omega
       have hjw : IntKind.i64.wrap ((j : Int) + 1) = (j : Int) + 1 := IntWalk.i64_in _ (by omega)
       have hj2 : j + 1 ≤ row.length := hjl; have hmf : row.length - (j + 1) < row.length - j := by omega
       obtain ⟨ada, rfl, a0⟩ := at_kN (Kd.zav HD.out.at_ HBW.out) hil; rw [atS_get ps 0 i hil, Nat.zero_add, ← HAT.out] at a0; have haw : IntKind.i64.wrap ((at0 : Int) + (j : Int)) = ((at0 + j : Nat) : Int) := by rw [IntWalk.i64_in _ (by omega)]; omega
       have hn0 : (0 : Int) ≤ ((at0 + j : Nat) : Int) := Int.natCast_nonneg _; have hnN : at0 + j < N := by have := HND.out; omega
       have hn1 : ((at0 + j : Nat) : Int) < (N : Int) := by omega
       have z0 := (zaa HS.out (at0 + j)).trans (ul_get (by rw [HX1.out.len]; exact hnN))
       obtain ⟨adr, hAr, r00, -⟩ := zbm HRP.out (j : Int) hj0 hj1; subst hAr; rw [Int.toNat_natCast, rdT110_nat row j hjl] at r00; have hrm := HRR.out _ (List.getElem_mem hjl); obtain ⟨y, hy⟩ := Int.eq_ofNat_of_zero_le hrm.1; rw [hy] at r00 hrm; have HR00 := Lib.hid r00; have r0 := zan HBW.out r00; clear r00; have HSYM : Hid (symAt row j = (y : Int)) := Lib.hid (by
        unfold symAt; rw [List.getElem?_eq_getElem hjl]; exact hy)
       have HNX : Hid (passC l.length sp of_ (List.range (at0 + (j + 1))) X = stepC l.length sp of_ X1 (at0 + j)) := Lib.hid (by
        rw [show at0 + (j + 1) = at0 + j + 1 by omega, passC_snoc, HP.out])
       have hflt := fst_lt HX1.out.lt (at0 + j); generalize hgn : at0 + j = n at *; generalize hgx : fst X1 n = x at *; have HGX := Lib.hid hgx; have HGN := Lib.hid hgn; have HFL2 := Lib.hid hflt; clear hy hgx hgn hflt; have hxb : ((x : Int) == 0) = decide (x = 0) := by
        by_cases hx : x = 0
        ·subst hx; rfl
        ·rw [decide_eq_false hx, beq_eq_false_iff_ne]; omega
       go_wp2_with fail
       by_cases hx0 : x = 0
       ·have hxd : decide (x = 0) = true := decide_eq_true hx0; have hxd2 : decide ((x : Int) = 0) = true := decide_eq_true (by omega)
        have HN1 : Hid (passC l.length sp of_ (List.range (at0 + (j + 1))) X = X1) := Lib.hid (by rw [HNX.out, stepC_or, if_pos (.inl (by rw [HGX.out]; exact hx0))])
        rw [hxd] at hxb; have hx0' : (x : Int) = 0 := by omega
        clear hxd; refine wp_region_quiet_lit (by kernel_rfl) (by kernel_rfl) ?_
        repeat (go_big_quiet_step (fail))
        refine wpQuiet_nil ?_; intro _ hw1; obtain ⟨nq, hw2⟩ := hw1; subst hw2; have HBd := Lib.hid (HB.out.drewN nq); have HSd := Lib.hid (zai HS.out nq)
        go_wp2_with fail
        go_roundw
        case rel => first | exact ⟨j + 1, ch, X1, rfl, by rw [Int.natCast_add]; rfl, hj2, HN1, HC, HX1, HSB, HBd, HSd⟩ | ((repeat apply Exists.intro); exact ⟨⟨j + 1, ch, X1, rfl, by rw [Int.natCast_add]; rfl, hj2, HN1, HC, HX1, HSB, HBd, HSd⟩, rfl⟩)
        case measure => exact hmf
       ·have hxd : decide (x = 0) = false := decide_eq_false hx0; have hxd2 : decide ((x : Int) = 0) = false := decide_eq_false (by omega)
        rw [hxd] at hxb; clear hxd; by_cases hyT : y < l.length
        ·have hyb : decide ((y : Int) < (l.length : Int)) = true := decide_eq_true (by omega)
         have HN1 : Hid (passC l.length sp of_ (List.range (at0 + (j + 1))) X = X1) := Lib.hid (by
          rw [HNX.out, stepC_or]; refine if_pos (.inr ?_); rw [← HGN.out, HRD.out j (by omega)]
          show symAt row j < _; rw [HSYM.out]; omega)
         refine wp_region_quiet_lit (by kernel_rfl) (by kernel_rfl) ?_
         repeat (go_big_quiet_step (fail))
         refine wpQuiet_nil ?_; intro _ hw1; obtain ⟨nq, hw2⟩ := hw1; subst hw2; have HBd := Lib.hid (HB.out.drewN nq); have HSd := Lib.hid (zai HS.out nq)
         go_wp2_with fail
         go_roundw
         case rel => first | exact ⟨j + 1, ch, X1, rfl, by rw [Int.natCast_add]; rfl, hj2, HN1, HC, HX1, HSB, HBd, HSd⟩ | ((repeat apply Exists.intro); exact ⟨⟨j + 1, ch, X1, rfl, by rw [Int.natCast_add]; rfl, hj2, HN1, HC, HX1, HSB, HBd, HSd⟩, rfl⟩)
         case measure => exact hmf
        ·have hyb : decide ((y : Int) < (l.length : Int)) = false := decide_eq_false (by omega)
         refine wp_region_quiet_lit (by kernel_rfl) (by kernel_rfl) ?_
         repeat (go_big_quiet_step (fail))
         refine wpQuiet_nil ?_; intro _ hw1; obtain ⟨nq, hw2⟩ := hw1; subst hw2; have HBd := Lib.hid (HB.out.drewN nq); have HSd := Lib.hid (zai HS.out nq); have HBWd := Lib.hid (bel_below HW.out HBd.out hsb); clear HB HS HBW k0 k2 k5 z0 a0 r0; generalize wr.drewN nq = V1 at *; obtain ⟨yy, hyy⟩ : ∃ yy, y = l.length + yy := ⟨y - l.length, by omega⟩
         subst hyy; have hyM : yy < m.length := by omega
         obtain ⟨L, hL⟩ : ∃ L, L = looksD F V (row.drop (j + 1)) x := ⟨_, rfl⟩; have hLl : L < zbi := by rw [hL]; exact looksD_lt HFT.out HFL2.out
         have hLS : looksS sp X1 n = L := by
          unfold looksS; rw [← HGN.out, HRD.out j (by omega), HGN.out, HGX.out, hL]
          unfold spotF looksD; simp only [Int.toNat_natCast]
         have HOR : Hid (rdOfs of_ yy = ofRow yy 0 ps) := Lib.hid (by
          unfold rdOfs; rw [HOF.out, List.getD_eq_getElem?_getD, ofAll_get hyM]; rfl)
         have HNX2 : Hid (passC l.length sp of_ (List.range (at0 + (j + 1))) X = orAll (ofRow yy 0 ps) L X1) := Lib.hid (by
          rw [HNX.out, stepC_or, if_neg ?_, hLS]
          ·rw [← HGN.out, HRD.out j (by omega)]
           show orAll (rdOfs of_ (symAt row j - (l.length : Int)).toNat) L X1 = _; rw [HSYM.out, show (((l.length + yy : Nat) : Int) - (l.length : Int)).toNat = yy by omega, HOR.out]
          ·rintro (h | h)
           ·rw [HGX.out] at h; exact hx0 h
           ·rw [← HGN.out, HRD.out j (by omega)] at h
            replace h : symAt row j < (l.length : Int) := h; rw [HSYM.out] at h; omega)
         have HDRP := Lib.hid (Kd.C_drop (Kd.zav HRP.out HBWd.out) (m := j + 1) (c := cp) hjl hcp); have HLK : Hid (∀ Aq cq, k110.C V1 Aq (row.drop (j + 1)).length (row.drop (j + 1)) → Calls Tryd.prog 107 #[.pointer (some ⟨b, 0, none⟩), .slice Aq (row.length - (j + 1)) cq, .int .u64 (x : Int)] V1 fun e' w' => e' = .returned (.int .u64 (L : Int)) ∧ Below V1.heap.size V1 w') := Lib.hid (fun Aq cq hC => by
          have h := looks_any (HD.out.below HBWd.out) F V HFL.out HFT.out HNL.out HNV.out Aq cq (row.drop (j + 1)) hC (by rw [List.length_drop]; omega) (fun r hr => by have := HRR.out r (List.mem_of_mem_drop hr); have := HKK.out; omega) x HFL2.out
          rw [List.length_drop, ← hL] at h; exact h)
         have HLL := Lib.hid hLl; clear hL hLS hLl HNX HGX HFL2 HRD HSYM HGN; have k0 := zaa (zak HD.out.bk HBWd.out) 0
         go_wp2_with (go_at_call 107; refine Hid.out ?_)
         case' inl =>
          subst h; refine Lib.hid ?_; refine (HLK.out (some adr) 0 (by have hd := HDRP.out; rw [if_pos rfl] at hd; exact hd)).mono ?_
         case' inr =>
          refine Lib.hid ?_; refine (HLK.out (some (adr.add ((j + 1) * 3))) (cp - (j + 1)) (by have hd := HDRP.out; rw [if_neg h] at hd; exact hd)).mono ?_
         all_goals
          rintro e2 V2 ⟨rfl, hb2⟩; have HB2 := Lib.hid (HBd.out.trans (Bel.of hb2)); have HS2 := Lib.hid (zak HSd.out hb2); have HQ0 : Hid (orAll (ofRow yy 0 (ps.take 1)) L X1 = X1) := Lib.hid (by
           have hp := HP0.out; rw [show (0 : Int) = ((0 : Nat) : Int) from rfl, rdT77_nat ps 0 (by omega)] at hp
           have e1 : ps.take 1 = [ps[0]] := by
            rw [List.take_succ_eq_append_getElem (by omega)]
            rfl
           rw [e1]; have e2 : ofRow yy 0 [ps[0]] = [] := by
            unfold ofRow; rw [hp, if_neg (by omega)]
            rfl
           rw [e2]; rfl)
          clear hb2 HBd HSd HLK HDRP k0 HBWd
          go_wp2_with fail
          go_loopw [5, 11] (fun v5 v11 w' => ∃ (q : Nat) (ch : Bool) (X2 : List Nat), v5 = .bool ch ∧ v11 = .int .i64 (q : Int) ∧ 1 ≤ q ∧ q ≤ ps.length ∧ Hid (orAll (ofRow yy 0 (ps.take q)) L X1 = X2) ∧ Hid (FlagOf ch (X2 ≠ X)) ∧ Hid (Xs N X2) ∧ Hid (Sub X X2) ∧ Hid (Bel sb w w') ∧ Hid (w'.heap[sb]? = some (.cells (ul X2) 128 (0, 0)))) (fun v5 v11 _ => ps.length - (intOf v11).toNat)
          case atStart => exact ⟨1, ch, X1, rfl, rfl, Nat.le_refl _, by omega, HQ0, HC, HX1, HSB, HB2, HS2⟩
          case round =>
           clear HQ0 HC HSB HB2 HS2; obtain ⟨q, ch, X2, rfl, rfl, hq1, hq, HQ, HC, HX2, HSB, HB, HS⟩ := hrel; have HBW := Lib.hid (bel_below HW.out HB.out hsb); have k0 := zaa (zak HD.out.bk HBW.out) 0; have k2 := zaa (zak HD.out.bk HBW.out) 2; have k5 := zaa (zak HD.out.bk HBW.out) 5; simp at k0 k2 k5; have r0 := zan HBW.out HR00.out; by_cases hql : q < ps.length
           ·have hqb : decide ((q : Int) < (ps.length : Int)) = true := decide_eq_true (by omega)
            have hq0 : (0 : Int) ≤ (q : Int) := Int.natCast_nonneg _; have hq1' : (q : Int) < (ps.length : Int) := by omega
            have hqw : IntKind.i64.wrap ((q : Int) + 1) = (q : Int) + 1 := IntWalk.i64_in _ (by omega)
            have hq2 : q + 1 ≤ ps.length := hql; have hqq : 1 ≤ q + 1 := by omega
            have hmg : ps.length - (q + 1) < ps.length - q := by omega
            obtain ⟨adp2, Aq, cq, hAq, p0, -, -, -⟩ := at_T77 HD.out.g.hC (q : Int) hq0 hq1'; injection hAq with hAq; subst hAq; rw [Int.toNat_natCast] at p0; replace p0 := zan HBW.out p0; have hlb := HF.out.lhs _ (rd77_mem hql); have hor1 : ofRow yy 0 (ps.take (q + 1)) = ofRow yy 0 (ps.take q) ++ (if (zal ps (q : Int)).f0 = (yy : Int) then [dots (ps.take q)] else []) := by rw [take_snoc77 hql, ofRow_snoc, Nat.zero_add]
            generalize (zal ps (q : Int)).f0 = lhs at *; have hw1 : IntKind.i64.wrap (lhs + (l.length : Int)) = lhs + (l.length : Int) := IntWalk.i64_in _ (by omega)
            have HO1 := Lib.hid hor1; clear hor1; by_cases hhit : lhs = (yy : Int)
            ·subst hhit; have HO2 : Hid (orAll (ofRow yy 0 (ps.take (q + 1))) L X1 = orAt X2 (dots (ps.take q)) L) := Lib.hid (by rw [HO1.out, if_pos rfl, orAll_snoc, HQ.out])
             obtain ⟨ada2, hAa, a0⟩ := at_kN (Kd.zav HD.out.at_ HBW.out) hql; injection hAa with hAa; subst hAa; rw [atS_get ps 0 q hql, Nat.zero_add] at a0; have hdq := dots_le hql; obtain ⟨aq, haq⟩ : ∃ a, a = dots (ps.take q) := ⟨_, rfl⟩; rw [← haq] at a0 hdq HO2; have haN : aq < N := by have := HND.out; omega
             have ha0 : (0 : Int) ≤ (aq : Int) := Int.natCast_nonneg _; have ha1 : (aq : Int) < (N : Int) := by omega
             clear haq HO1; have hnb : (((yy : Nat) : Int) + (l.length : Int) != ((l.length : Int) + (yy : Int))) = false := by rw [bne_eq_false_iff_eq]; omega
             have hnb2 : decide (((yy : Nat) : Int) + (l.length : Int) = ((l.length : Int) + (yy : Int))) = true := decide_eq_true (by omega)
             have hnb3 : (((yy : Nat) : Int) + (l.length : Int) = ((l.length : Int) + (yy : Int))) = True := propext ⟨fun _ => trivial, fun _ => by omega⟩
             go_wp2_with fail
             refine wp_region_quiet_lit (by kernel_rfl) (by kernel_rfl) ?_
             repeat (go_big_quiet_step (fail))
             refine wpQuiet_nil ?_; intro _ hw1; obtain ⟨nq, hw2⟩ := hw1; subst hw2; have HBd := Lib.hid (HB.out.drewN nq); have HSd := Lib.hid (zai HS.out nq); have a0d : (wr.drewN nq).cell? (ada.add q) = some (.int .i64 (aq : Int)) := zan (zab (Below.refl _ _) nq) a0; have HBWd := Lib.hid (bel_below HW.out HBd.out hsb); clear HB HS HBW k0 k2 k5 r0 p0 a0; generalize wr.drewN nq = V3 at *; have k5 := zaa (zak HD.out.bk HBWd.out) 5; simp at k5; have z0 := (zaa HSd.out aq).trans (ul_get (by rw [HX2.out.len]; exact haN))
             have zf := zae HSd.out aq; have hult := fst_lt HX2.out.lt aq; have hor := u64_or_nat (fst X2 aq) L hult HLL.out; have HX3 := Lib.hid (HX2.out.or (n := aq) HLL.out); have HSB3 := Lib.hid (HSB.out.trans (orAt_sub X2 aq L)); have hne := orAt_ne (s := X2) (n := aq) (x := L) (by rw [HX2.out.len]; exact haN)
             have HBn := Lib.hid (HBd.out.set aq (.int .u64 ((fst X2 aq ||| L : Nat) : Int))); have HSn : Hid ((V3.setCell ⟨sb, aq, none⟩ (.int .u64 ((fst X2 aq ||| L : Nat) : Int))).heap[sb]? = some (.cells (ul (orAt X2 aq L)) 128 (0, 0))) := Lib.hid (zat HSd.out aq _ (ul_set X2 aq _)); have HNE := Lib.hid hne; clear hne hult; cases ch with
             | true =>
              have HC3 : Hid (FlagOf true (orAt X2 aq L ≠ X)) := Lib.hid ⟨fun _ e => (HC.out.1 rfl) (Sub.eq (by rw [← e]; exact orAt_sub X2 aq L) HSB.out (by rw [← e, orAt_len])), fun _ => rfl⟩
              clear HNE
              go_wp2_with fail
              go_roundw
              case rel => first | exact ⟨q + 1, true, orAt X2 aq L, rfl, by rw [Int.natCast_add]; rfl, hqq, hq2, HO2, HC3, HX3, HSB3, HBn, HSn⟩ | ((repeat apply Exists.intro); exact ⟨⟨q + 1, true, orAt X2 aq L, rfl, by rw [Int.natCast_add]; rfl, hqq, hq2, HO2, HC3, HX3, HSB3, HBn, HSn⟩, rfl⟩)
              case measure => exact hmg
             | false =>
              have hXX : X2 = X := Classical.byContradiction (fun h => by have := HC.out.2 h; cases this)
              have HXX := Lib.hid hXX; clear hXX; by_cases hch : fst X2 aq ||| L = fst X2 aq
              ·have HC3 : Hid (FlagOf false (orAt X2 aq L ≠ X)) := Lib.hid ⟨fun h => (by cases h), fun h => absurd hch (HNE.out.1 (by rw [← HXX.out] at h; exact h))⟩
               have hcb : (((fst X2 aq ||| L : Nat) : Int) != ((fst X2 aq : Nat) : Int)) = false := by rw [hch]; simp
               have hcb2 : decide (((fst X2 aq ||| L : Nat) : Int) = ((fst X2 aq : Nat) : Int)) = true := decide_eq_true (by rw [hch])
               have HCH := Lib.hid hch; clear HNE hch; generalize hu1 : fst X2 aq ||| L = u1 at *; have HU1 := Lib.hid hu1; generalize hu0 : fst X2 aq = u0 at *; clear hu1 hu0
               go_wp2_with fail
               go_roundw
               case rel => first | exact ⟨q + 1, false, orAt X2 aq L, rfl, by rw [Int.natCast_add]; rfl, hqq, hq2, HO2, HC3, HX3, HSB3, HBn, HSn⟩ | ((repeat apply Exists.intro); exact ⟨⟨q + 1, false, orAt X2 aq L, rfl, by rw [Int.natCast_add]; rfl, hqq, hq2, HO2, HC3, HX3, HSB3, HBn, HSn⟩, rfl⟩)
               case measure => exact hmg
              ·have HC3 : Hid (FlagOf true (orAt X2 aq L ≠ X)) := Lib.hid ⟨fun _ => by rw [← HXX.out]; exact HNE.out.2 hch, fun _ => rfl⟩
               have hcb : (((fst X2 aq ||| L : Nat) : Int) != ((fst X2 aq : Nat) : Int)) = true := by rw [bne_iff_ne]; omega
               have hcb2 : decide (((fst X2 aq ||| L : Nat) : Int) = ((fst X2 aq : Nat) : Int)) = false := decide_eq_false (by omega)
               clear HNE hch; generalize hu1 : fst X2 aq ||| L = u1 at *; have HU1 := Lib.hid hu1; generalize hu0 : fst X2 aq = u0 at *; clear hu1 hu0
               go_wp2_with fail
               go_roundw
               case rel => first | exact ⟨q + 1, true, orAt X2 aq L, rfl, by rw [Int.natCast_add]; rfl, hqq, hq2, HO2, HC3, HX3, HSB3, HBn, HSn⟩ | ((repeat apply Exists.intro); exact ⟨⟨q + 1, true, orAt X2 aq L, rfl, by rw [Int.natCast_add]; rfl, hqq, hq2, HO2, HC3, HX3, HSB3, HBn, HSn⟩, rfl⟩)
               case measure => exact hmg
            ·have HO2 : Hid (orAll (ofRow yy 0 (ps.take (q + 1))) L X1 = X2) := Lib.hid (by rw [HO1.out, if_neg hhit, List.append_nil, HQ.out])
             have hnb : (lhs + (l.length : Int) != ((l.length : Int) + (yy : Int))) = true := by rw [bne_iff_ne]; omega
             have hnb2 : decide (lhs + (l.length : Int) = ((l.length : Int) + (yy : Int))) = false := decide_eq_false (by omega)
             have hnb3 : (lhs + (l.length : Int) = ((l.length : Int) + (yy : Int))) = False := propext ⟨fun _ => by omega, fun h => h.elim⟩
             clear HO1
             go_wp2_with fail
             refine wp_region_quiet_lit (by kernel_rfl) (by kernel_rfl) ?_
             repeat (go_big_quiet_step (fail))
             refine wpQuiet_nil ?_; intro _ hw1; obtain ⟨nq, hw2⟩ := hw1; subst hw2; have HBd := Lib.hid (HB.out.drewN nq); have HSd := Lib.hid (zai HS.out nq)
             go_wp2_with fail
             go_roundw
             case rel => first | exact ⟨q + 1, ch, X2, rfl, by rw [Int.natCast_add]; rfl, hqq, hq2, HO2, HC, HX2, HSB, HBd, HSd⟩ | ((repeat apply Exists.intro); exact ⟨⟨q + 1, ch, X2, rfl, by rw [Int.natCast_add]; rfl, hqq, hq2, HO2, HC, HX2, HSB, HBd, HSd⟩, rfl⟩)
             case measure => exact hmg
           ·have hqb : decide ((q : Int) < (ps.length : Int)) = false := decide_eq_false (by omega)
            have HPn : Hid (passC l.length sp of_ (List.range (at0 + (j + 1))) X = X2) := Lib.hid (by
             have h := HQ.out; rw [List.take_of_length_le (by omega)] at h
             rw [HNX2.out, h])
            go_wp2_with fail
            go_roundw
            case rel => first | exact ⟨j + 1, ch, X2, rfl, by rw [Int.natCast_add]; rfl, hj2, HPn, HC, HX2, HSB, HB, HS⟩ | ((repeat apply Exists.intro); refine ⟨?_, rfl⟩; exact ⟨j + 1, ch, X2, rfl, by rw [Int.natCast_add]; rfl, hj2, HPn, HC, HX2, HSB, HB, HS⟩)
            case measure => exact hmf
      ·have hjb : decide ((j : Int) < (row.length : Int)) = false := decide_eq_false (by omega)
       have HPn : Hid (passC l.length sp of_ (List.range (dots (ps.take (i + 1)))) X = X1) := Lib.hid (by
        have hje : j = row.length := by omega
        subst hje; rw [HDT.out, show at0 + (row.length + 1) = at0 + row.length + 1 by omega, passC_snoc, HP.out, stepC_or]
        refine if_pos (.inr ?_); rw [HRD.out row.length (Nat.le_refl _)]; show symAt row row.length < _; unfold symAt; rw [List.getElem?_eq_none (Nat.le_refl _)]; show (-1 : Int) < (l.length : Int); omega)
       go_wp2_with fail
       go_roundw
       case rel => first | exact ⟨i + 1, ch, X1, rfl, by rw [Int.natCast_add]; rfl, hi2, HPn, HC, HX1, HSB, HB, HS⟩ | ((repeat apply Exists.intro); exact ⟨⟨i + 1, ch, X1, rfl, by rw [Int.natCast_add]; rfl, hi2, HPn, HC, HX1, HSB, HB, HS⟩, rfl⟩)
       case measure => exact hme
    ·have hib : decide ((i : Int) < (ps.length : Int)) = false := decide_eq_false (by omega)
     have hXP : passC l.length sp of_ (List.range sp.length) X = X1 := by
      have h := HP.out; rw [List.take_of_length_le (by omega)] at h
      rw [HSP.out, spotsS_len, ← HSP.out]; exact h
     have HTn : Hid (IfT ch (closeD l.length sp of_ g X1 = some r)) := Lib.hid (fun hc => by
      have h := HST.out; rw [hXP, if_neg (HC.out.1 hc)] at h; exact h)
     have HFn : Hid (IfF ch (X1 = r)) := Lib.hid (fun hc => by
      have he : X1 = X := Classical.byContradiction (fun h => by have := HC.out.2 h; rw [hc] at this; cases this)
      have h := HST.out; rw [hXP, if_pos he] at h; injection h with h; rw [he, h])
     have hgk : g ≤ k := by have := HKQ.out; omega
     have HGK := Lib.hid hgk; clear hXP hgk
     go_wp2_with fail
     go_roundg g
     case measure => omega
     case rel => first | exact ⟨X1, ch, rfl, HX1, HGK, HTn, HFn, HB, HS⟩ | ((repeat apply Exists.intro); exact ⟨⟨X1, ch, rfl, HX1, HGK, HTn, HFn, HB, HS⟩, rfl⟩)
end Doc
end Go.Proofs.YtcijanmckhlpiaaDoor
namespace Go.Proofs.YtcijanmckhlpiaaDoor
open Go.RowKit Go.Proofs.YtcijanmckhlpiaaDoor.PTableBuilds
namespace Doc
open Bld
def behF (sp : List S230) (s : List Nat) (y : Nat) : Nat → List Nat
 | 0 => List.replicate sp.length 0
 | n + 1 => if fst s n ≠ 0 ∧ (rdSp sp n).f2 = (y : Int) then (behF sp s y n).set (n + 1) (fst s n) else behF sp s y n
section
variable {sp : List S230}
theorem behF_len (s : List Nat) (y : Nat) : ∀ n, (behF sp s y n).length = sp.length
 | 0 => List.length_replicate
 | n + 1 => by
  unfold behF
  split
  ·rw [List.length_set]; exact behF_len s y n
  ·exact behF_len s y n
theorem behF_marks (hnx : ∀ i, i + 1 = sp.length → (rdSp sp i).f2 < 0) (s : List Nat) (y : Nat) : ∀ n, n ≤ sp.length → behF sp s y n = (marksS (marksOf sp s y n) (List.replicate sp.length 0, [])).1
 | 0, _ => by simp [behF, marksOf, marksS]
 | n + 1, hn => by
  have ih := behF_marks hnx s y n (by omega)
  have hm := mkSt hnx s y n (by omega)
  rw [marksOf_succ]; unfold behF; by_cases h : fst s n ≠ 0 ∧ (rdSp sp n).f2 = (y : Int)
  ·rw [if_pos h, if_pos h, marksS_snoc, ih]; have h0 : fst (marksS (marksOf sp s y n) (List.replicate sp.length 0, [])).1 (n + 1) = 0 := by rw [hm.at_, if_neg (fun c => absurd c.1 (Nat.lt_irrefl _))]
   simp only [Int.toNat_natCast]; unfold putS; rw [h0, Nat.zero_or, if_neg h.1]
  ·rw [if_neg h, if_neg h, List.append_nil, ih]
theorem behF_all (hnx : ∀ i, i + 1 = sp.length → (rdSp sp i).f2 < 0) {s : List Nat} (hs : s.length = sp.length) (y : Nat) : behF sp s y sp.length = behV sp s y := by
 rw [behF_marks hnx s y _ (Nat.le_refl _), ← marks_beh hnx hs y, hs]
def anyF (sp : List S230) (s : List Nat) (y n : Nat) : Bool := !(marksOf sp s y n).isEmpty
theorem anyF_succ (s : List Nat) (y n : Nat) : anyF sp s y (n + 1) = (anyF sp s y n || decide (fst s n ≠ 0 ∧ (rdSp sp n).f2 = (y : Int))) := by
 unfold anyF; rw [marksOf_succ]; by_cases h : fst s n ≠ 0 ∧ (rdSp sp n).f2 = (y : Int)
 ·rw [if_pos h, decide_eq_true h, Bool.or_true]; simp
 ·rw [if_neg h, decide_eq_false h, Bool.or_false, List.append_nil]
theorem anyF_iff (s : List Nat) (y n : Nat) : anyF sp s y n = false ↔ marksOf sp s y n = [] := by
 unfold anyF; cases marksOf sp s y n <;> simp
end
theorem ofRow_mem (x : Nat) : ∀ (ps : List S77) (n y : Nat), y ∈ ofRow x n ps → ∃ q, ∃ hq : q < ps.length, y = n + dots (ps.take q) ∧ (ps[q]).f0 = (x : Int)
 | [], n, y, h => by cases h
 | p :: ps, n, y, h => by
  have key : y ∈ ofRow x (n + p.f1.length + 1) ps → ∃ q, ∃ hq : q < (p :: ps).length, y = n + dots ((p :: ps).take q) ∧ ((p :: ps)[q]).f0 = (x : Int) := fun h => by
   obtain ⟨q, hq, h1, h2⟩ := ofRow_mem x ps _ y h; exact ⟨q + 1, by simpa using hq, by rw [List.take_succ_cons, dots_cons, h1]; omega, by simpa using h2⟩
  unfold ofRow at h
  split at h
  ·rename_i hx
   rcases List.mem_cons.1 h with rfl | h
   ·exact ⟨0, by simp, by simp [dots], by simpa using hx⟩
   ·exact key h
  ·exact key h
theorem spot_split : ∀ (ps : List S77) (i : Nat), i < dots ps → ∃ p j, ∃ hp : p < ps.length, j ≤ (ps[p]).f1.length ∧ i = dots (ps.take p) + j
 | [], i, h => by simp [dots] at h
 | p :: ps, i, h => by
  rw [dots_cons] at h; by_cases hi : i ≤ p.f1.length
  ·exact ⟨0, i, by simp, by simpa using hi, by simp [dots]⟩
  ·obtain ⟨q, j, hq, h1, h2⟩ := spot_split ps (i - (p.f1.length + 1)) (by omega)
   exact ⟨q + 1, j, by simpa using hq, by simpa using h1, by rw [List.take_succ_cons, dots_cons]; omega⟩
theorem dots_mono {ps : List S77} {a b : Nat} (h : a ≤ b) : dots (ps.take a) ≤ dots (ps.take b) := by
 have e : ps.take a = (ps.take b).take a := by rw [List.take_take, Nat.min_eq_left h]
 rw [e]; exact dots_take _ _
theorem sp_fair {T M : Nat} {ps : List S77} (hf : Bld.Fair T M ps) (hp : 0 < ps.length) (hp0 : (ps[0]).f0 = -1) {F : List Nat} {V : List Bool} (hF : Lt T F) : Sp T M (dots ps) (zbc F V 0 ps) (zbo M ps) := by
 have hB := fitB_of (s := (F, V)) hf hF; have hlen := spotsS_len F V ps 0; have hSp := spotsS_ok (M := M) (V := V) hF hf.t1 ps 0 (n := ps.length) (by omega) hf.rhs
 have hof : ∀ y n, n ∈ rdOfs (zbo M ps) y → ∃ q, ∃ hq : q < ps.length, n = dots (ps.take q) ∧ (ps[q]).f0 = (y : Int) := fun y n h => by
  by_cases hy : y < M
  ·unfold rdOfs at h; rw [List.getD_eq_getElem?_getD, ofAll_get hy] at h; obtain ⟨q, hq, h1, h2⟩ := ofRow_mem y ps 0 n h; exact ⟨q, hq, by omega, h2⟩
  ·unfold rdOfs at h; rw [List.getD_eq_getElem?_getD, List.getElem?_eq_none (by rw [ofAll_len]; omega)] at h
   cases h
 refine ⟨hlen, ?_, spots_last hp, fun i h0 hi y hy => ?_, fun y hy => ?_, fun l hl n hn => ?_, fun x hx => ?_, hf.t64, hf.tot⟩
 ·have := dots_len ps; omega
 ·obtain ⟨q, hq, h1, h2⟩ := hof y _ hy; obtain ⟨p, j, hpl, hj, he⟩ := spot_split ps i hi; rw [he, rdSp_get hpl hj] at h0; replace h0 : 0 ≤ symAt (ps[p]).f1 j := h0; have hjl : j < (ps[p]).f1.length := by
   apply Classical.byContradiction; intro hge; unfold symAt at h0; rw [List.getElem?_eq_none (by omega)] at h0
   exact absurd h0 (by decide)
  have hp1 : dots (ps.take (p + 1)) = dots (ps.take p) + ((ps[p]).f1.length + 1) := by rw [List.take_succ_eq_append_getElem hpl, dots_snoc]
  rcases Nat.lt_or_ge p q with hc | hc
  ·have := dots_mono (ps := ps) (show p + 1 ≤ q by omega)
   omega
  ·have := dots_mono (ps := ps) hc; omega
 ·obtain ⟨q, hq, h1, h2⟩ := hof y 0 hy; cases q with
  | zero => rw [hp0] at h2; omega
  | succ q =>
   have := dots_le (show q < ps.length by omega)
   have hp1 : dots (ps.take (q + 1)) = dots (ps.take q) + ((ps[q]).f1.length + 1) := by rw [List.take_succ_eq_append_getElem (by omega), dots_snoc]
   omega
 ·have := (hB.starts l hl).2 n hn; rw [hlen] at this; exact this
 ·have := (hSp x hx).rest; omega
theorem syms_pos {ps : List S77} (hs : ∀ p ∈ ps, ∀ r ∈ p.f1, 1 ≤ r.f0) {F : List Nat} {V : List Bool} : ∀ i, i < dots ps → (rdSp (zbc F V 0 ps) i).f2 ≠ 0 := by
 intro i hi; obtain ⟨p, j, hpl, hj, he⟩ := spot_split ps i hi; rw [he, rdSp_get hpl hj]; show symAt (ps[p]).f1 j ≠ 0; unfold symAt
 split
 ·rename_i r hr
  have := hs _ (List.getElem_mem hpl) r (List.mem_of_getElem? hr); omega
 ·decide
end Doc
end Go.Proofs.YtcijanmckhlpiaaDoor
namespace Go.Proofs.YtcijanmckhlpiaaDoor
open Go.RowKit Go.Proofs.YtcijanmckhlpiaaDoorW.PrintWords Go.Proofs.YtcijanmckhlpiaaDoorW.PrintLast Go.Proofs.YtcijanmckhlpiaaDoorW.PrintMore Go.Proofs.YtcijanmckhlpiaaDoor.PTableBuilds
namespace Doc
open Bld
theorem ul_new (n : Nat) : Array.replicate n (Value.int .u64 0) = ul (List.replicate n 0) := by
 unfold ul; rw [List.map_replicate, List.toArray_replicate]; rfl
theorem behF_lt {sp : List S230} {s : List Nat} (hs : ∀ y ∈ s, y < zbi) (y : Nat) : ∀ n, ∀ z ∈ behF sp s y n, z < zbi
 | 0, z, hz => by
  unfold behF at hz; rw [(List.mem_replicate.1 hz).2]; decide
 | n + 1, z, hz => by
  unfold behF at hz
  split at hz
  ·rcases List.mem_or_eq_of_mem_set hz with hz | hz
   ·exact behF_lt hs y n z hz
   ·rw [hz]; exact fst_lt hs n
  ·exact behF_lt hs y n z hz
set_option maxRecDepth 100000 in
set_option maxHeartbeats 8000000 in
theorem behind_any {w : World} {b : Nat} {A : Option Addr} {c : Nat} {l : List S112} {B : Option Addr} {d : Nat} {m : List S115} {C : Option Addr} {e : Nat} {ps : List S77} {KK nb : Nat} {Nn : List Bool} {Af : Option Addr} {cf : Nat} {FL : List Nat} {Aa : Option Addr} {ca : Nat} (hD : DB w b A c l B d m C e ps KK nb Nn Af cf FL Aa ca) (hK : KK = l.length + m.length) (hf : Bld.Fair l.length m.length ps) (hpp : 0 < ps.length)
  (F : List Nat) (V : List Bool) (hFL : FL = (List.range KK).map (fst F)) (hFt : ∀ x ∈ F, x < zbi) (hNl : Nn.length = KK) (hN : ∀ k, van Nn k = van V k) (hp0 : (zal ps 0).f0 = -1) (N : Nat) (hNd : N = dots ps) (As : Option Addr) (cs : Nat) (X r : List Nat) (k y : Nat) (hX : Xs N X) (hS : kU.C w As N X) (hy : y < KK)
  (hk : marksOf (zbc F V 0 ps) X y N ≠ [] → closeD l.length (zbc F V 0 ps) (zbo m.length ps) k (behV (zbc F V 0 ps) X y) = some r) :
  Calls Tryd.prog 74 #[.pointer (some ⟨b, 0, none⟩), .slice As N cs, .int .i64 (y : Int)] w fun e' w' => Below w.heap.size w w' ∧ ((marksOf (zbc F V 0 ps) X y N = [] ∧ e' = .returned (.tuple #[.slice none 0 0, .bool false])) ∨ (marksOf (zbc F V 0 ps) X y N ≠ [] ∧ ∃ ob, e' = .returned (.tuple #[.slice (some ⟨ob, 0, none⟩) N N, .bool true]) ∧ w.heap.size ≤ ob ∧ w'.heap[ob]? = some (.cells (ul r) 128 (0, 0)))) := by
 have t1 := hf.t1; have t64 := hf.t64; have m128 := hf.m128; have hlen := hf.len; have htot := hf.tot; have hlast := spots_last (F := F) (V := V) hpp; have hspl := spotsS_len F V ps 0; obtain ⟨sp, hsp⟩ : ∃ sp, sp = zbc F V 0 ps := ⟨_, rfl⟩; have HCLO : Hid (∀ (W : World) (ob : Nat), Below w.heap.size w W → w.heap.size ≤ ob → marksOf sp X y N ≠ [] → W.heap[ob]? = some (.cells (ul (behF sp X y N)) 128 (0, 0)) → Calls Tryd.prog 73 #[.pointer (some ⟨b, 0, none⟩), .slice (some ⟨ob, 0, none⟩) N N] W fun e' w' => e' = .returned (.slice (some ⟨ob, 0, none⟩) N N) ∧ Bel ob W w' ∧ w'.heap[ob]? = some (.cells (ul r) 128 (0, 0))) := Lib.hid (fun W ob hb ho hm hs => by
  rw [hsp] at hm hs; have hbe : behF (zbc F V 0 ps) X y N = behV (zbc F V 0 ps) X y := by
   rw [show N = (zbc F V 0 ps).length by rw [hspl, hNd]]
   exact behF_all hlast (by rw [hX.len, hspl, hNd]) y
  refine dclosed_any hD hK hf F V hFL hFt hNl hN hp0 ob N hNd _ r k ⟨by rw [behF_len, hspl, hNd], behF_lt hX.lt y N⟩ ?_ W hb ho hs
  rw [hbe]; exact hk hm)
 have HD := Lib.hid hD; have HF := Lib.hid hf; have HSP := Lib.hid hsp; have HX := Lib.hid hX; have HS := Lib.hid hS; have HND := Lib.hid hNd; have HSL : Hid (sp.length = N) := Lib.hid (by rw [hsp, hspl, hNd])
 have hN20 : N ≤ 1048576 := by omega
 have hk6 := zaa hD.bk 6; simp at hk6; rw [← hNd] at hk6; have hmk : ∀ W : World, (Instr.makeSlice 181 (.int .i64 (N : Int)) (.int .i64 (N : Int))).run Tryd.prog W = .ok (.slice (some ⟨W.heap.size, 0, none⟩) N N) (W.alloc (.cells (ul (List.replicate N 0)) 128)) := fun W => by
  rw [← ul_new, ← List.toArray_replicate, ← made_one]; exact run_make_row' 181 128 (.int .u64 0) 8 Tryd.underlying181 info128 rfl .i64 .i64 N (by omega) (by omega) W
 rw [← hsp]; have hyK : y < 9223372036854775807 := by omega
 clear hD hf hsp hX hS hk hFL hFt hNl hN hp0 hK hlast hspl hNd hy
 go_enter Tryd.func74, Tryd.ntmps74
 go_wp2_with fail
 have HB0 := Lib.hid (zac (Below.refl w.heap.size w) (.cells (ul (List.replicate N 0)) 128)); have hon := zau w (.cells (ul (List.replicate N 0)) 128); have HO0 : Hid ((w.alloc (.cells (ul (List.replicate N 0)) 128)).heap[w.heap.size]? = some (.cells (ul (behF sp X y (dots (ps.take 0)))) 128 (0, 0))) := Lib.hid (by
  show _ = some (Obj.cells (ul (List.replicate sp.length 0)) 128 (0, 0)); rw [HSL.out]; exact hon)
 have HA0 : Hid (anyF sp X y (dots (ps.take 0)) = false) := Lib.hid rfl; clear hon hmk hk6; generalize w.alloc (.cells (ul (List.replicate N 0)) 128) = V0 at *
 go_loopw [9, 10] (fun v9 v10 w' => ∃ (i : Nat) (an : Bool), v9 = .bool an ∧ v10 = .int .i64 (i : Int) ∧ i ≤ ps.length ∧ Hid (anyF sp X y (dots (ps.take i)) = an) ∧ Hid (Below w.heap.size w w') ∧ Hid (w'.heap[w.heap.size]? = some (.cells (ul (behF sp X y (dots (ps.take i)))) 128 (0, 0)))) (fun v9 v10 _ => ps.length - (intOf v10).toNat)
 case atStart => exact ⟨0, false, rfl, rfl, Nat.zero_le _, HA0, HB0, HO0⟩
 case round =>
  clear HA0 HB0 HO0; obtain ⟨i, an, rfl, rfl, hi, HA, HB, HO⟩ := hrel; have k2 := zaa (zak HD.out.bk HB.out) 2; simp at k2; by_cases hil : i < ps.length
  ·have hib : decide ((i : Int) < (ps.length : Int)) = true := decide_eq_true (by omega)
   have hi0 : (0 : Int) ≤ (i : Int) := Int.natCast_nonneg _; have hi1 : (i : Int) < (ps.length : Int) := by omega
   have hiw : IntKind.i64.wrap ((i : Int) + 1) = (i : Int) + 1 := IntWalk.i64_in _ (by omega)
   have hi2 : i + 1 ≤ ps.length := hil; have hme : ps.length - (i + 1) < ps.length - i := by omega
   obtain ⟨adp, Ap, cp, hCe, p0, p1, hcp, hrp⟩ := at_T77 HD.out.g.hC (i : Int) hi0 hi1; subst hCe; rw [Int.toNat_natCast] at p0 p1; replace p1 := zan HB.out p1; rw [rdT77_nat ps i hil] at p1 hcp hrp; have hdl := dots_le hil; have hdt : dots (ps.take (i + 1)) = dots (ps.take i) + ((ps[i]).f1.length + 1) := by rw [List.take_succ_eq_append_getElem hil, dots_snoc]
   have hrow := HF.out.row (List.getElem_mem hil); have HRR := Lib.hid (HF.out.rhs _ (List.getElem_mem hil)); have HRD : Hid (∀ j, j ≤ (ps[i]).f1.length → (rdSp sp (dots (ps.take i) + j)).f2 = symAt (ps[i]).f1 j) := Lib.hid (fun j hj => by rw [HSP.out, rdSp_get hil hj]; rfl)
   have HDT := Lib.hid hdt; generalize (ps[i]).f1 = row at *; obtain ⟨at0, hat0⟩ : ∃ a, a = dots (ps.take i) := ⟨_, rfl⟩; rw [← hat0] at HA HO HRD HDT hdl hdt; have HAT := Lib.hid hat0; have HRP := Lib.hid hrp; have HA' : Hid (anyF sp X y (at0 + 0) = an) := HA; have HO' : Hid (wr.heap[w.heap.size]? = some (.cells (ul (behF sp X y (at0 + 0))) 128 (0, 0))) := HO; clear hrp p0 hat0 hdt
   go_wp2_with fail
   go_loopw [9, 12] (fun v9 v12 w' => ∃ (j : Nat) (an : Bool), v9 = .bool an ∧ v12 = .int .i64 (j : Int) ∧ j ≤ row.length ∧ Hid (anyF sp X y (at0 + j) = an) ∧ Hid (Below w.heap.size w w') ∧ Hid (w'.heap[w.heap.size]? = some (.cells (ul (behF sp X y (at0 + j))) 128 (0, 0)))) (fun v9 v12 _ => row.length - (intOf v12).toNat)
   case atStart => exact ⟨0, an, rfl, rfl, Nat.zero_le _, HA', HB, HO'⟩
   case round =>
    clear HA HA' HO HO' HB p1 k2; obtain ⟨j, an, rfl, rfl, hj, HA, HB, HO⟩ := hrel; have k5 := zaa (zak HD.out.bk HB.out) 5; simp at k5; by_cases hjl : j < row.length
    ·have hjb : decide ((j : Int) < (row.length : Int)) = true := decide_eq_true (by omega)
     have hj0 : (0 : Int) ≤ (j : Int) := Int.natCast_nonneg _; have hj1 : (j : Int) < (row.length : Int) := by omega
     have hjw : IntKind.i64.wrap ((j : Int) + 1) = (j : Int) + 1 := IntWalk.i64_in _ (by omega)
     have hj2 : j + 1 ≤ row.length := hjl; have hmf : row.length - (j + 1) < row.length - j := by omega
     obtain ⟨ada, rfl, a0⟩ := at_kN (Kd.zav HD.out.at_ HB.out) hil; rw [atS_get ps 0 i hil, Nat.zero_add, ← HAT.out] at a0; have haw : IntKind.i64.wrap ((at0 : Int) + (j : Int)) = ((at0 + j : Nat) : Int) := by rw [IntWalk.i64_in _ (by omega)]; omega
     have hn0 : (0 : Int) ≤ ((at0 + j : Nat) : Int) := Int.natCast_nonneg _; have hnN : at0 + j + 1 < N := by have := HND.out; omega
     have hn1 : ((at0 + j : Nat) : Int) < (N : Int) := by omega
     obtain ⟨ads, rfl, s0⟩ := at_U (Kd.zav HS.out HB.out) (show at0 + j < N by omega)
     obtain ⟨adr, hAr, r0, -⟩ := zbm (Kd.zav HRP.out HB.out) (j : Int) hj0 hj1; subst hAr; rw [Int.toNat_natCast, rdT110_nat row j hjl] at r0; have hrm := HRR.out _ (List.getElem_mem hjl); have HF2 : Hid ((rdSp sp (at0 + j)).f2 = (row[j]).f0) := Lib.hid (by
      rw [HRD.out j (by omega)]
      unfold symAt; rw [List.getElem?_eq_getElem hjl])
     generalize (row[j]).f0 = sy at *; have HAS := Lib.hid (anyF_succ (sp := sp) X y (at0 + j)); have HBS : Hid (behF sp X y (at0 + j + 1) = if fst X (at0 + j) ≠ 0 ∧ (rdSp sp (at0 + j)).f2 = (y : Int) then (behF sp X y (at0 + j)).set (at0 + j + 1) (fst X (at0 + j)) else behF sp X y (at0 + j)) := Lib.hid rfl
     have HE1 : Hid (at0 + (j + 1) = at0 + j + 1) := Lib.hid (by omega)
     generalize hgx : fst X (at0 + j) = x at *; clear hgx; have z1 := zae HO.out (at0 + j + 1); have z0 := (zaa HO.out (at0 + j + 1)).trans (ul_get (by rw [behF_len, HSL.out]; exact hnN))
     have hm0 : (0 : Int) ≤ ((at0 + j + 1 : Nat) : Int) := Int.natCast_nonneg _; have hm1 : ((at0 + j + 1 : Nat) : Int) < (N : Int) := by omega
     have hm2 : (0 : Int) ≤ ((at0 + j : Nat) : Int) + 1 := by omega
     have hm3 : ((at0 + j : Nat) : Int) + 1 < (N : Int) := by omega
     have hm4 : (((at0 + j : Nat) : Int) + 1).toNat = at0 + j + 1 := by omega
     have hw3 : IntKind.i64.wrap (((at0 + j : Nat) : Int) + 1) = ((at0 + j : Nat) : Int) + 1 := IntWalk.i64_in _ (by omega)
     generalize hgn : at0 + j = n at *; have HGN := Lib.hid hgn; clear hgn; by_cases hhit : x ≠ 0 ∧ sy = (y : Int)
     ·obtain ⟨hx0, rfl⟩ := hhit; have hxd2 : decide ((x : Int) = 0) = false := decide_eq_false (by omega)
      have hxb : ((x : Int) != 0) = true := by rw [bne_iff_ne]; omega
      have HAn : Hid (anyF sp X y (at0 + (j + 1)) = true) := Lib.hid (by rw [HE1.out, HAS.out, decide_eq_true ⟨hx0, HF2.out⟩, Bool.or_true])
      have HBn : Hid (behF sp X y (at0 + (j + 1)) = (behF sp X y n).set (n + 1) x) := Lib.hid (by rw [HE1.out, HBS.out, if_pos ⟨hx0, HF2.out⟩])
      go_wp2_with fail
      have hmx : Tryd.prog.follows .mixedOrders = true := by kernel_rfl
      refine start_ (n := 25) (S := fun w' => w'.cell? ⟨b, 5, none⟩ = some (.slice (some ada) ps.length ca) ∧ w'.cell? (ada.add i) = some (.int .i64 (at0 : Int)) ∧ w'.cell? (ads.add n) = some (.int .u64 (x : Int))) (ds := [24]) #[false, false, false, false, false, false, false, false, false, false, false, false, false, false, false, false, false, false, false, false, false, false, false, false, false] (by kernel_rfl) rfl rfl ⟨zaa (zah (zak HD.out.bk HB.out)) 5, zan (zaw (Below.refl _ _)) a0, zan (zaw (Below.refl _ _)) s0⟩ (fun hHeld => ?_)
      refine pe_ 0 (some 65) ?_ ?_ ?_ ?_ ?_; rotate_left
      ·intro w'; go_simp
       with_reducible rfl
      rotate_left
      ·simp only [nm_]; rfl
      refine pe_ 1 (some 66) ?_ ?_ ?_ ?_ ?_; rotate_left
      ·intro w'; go_simp
       with_reducible rfl
      rotate_left
      ·simp only [nm_]; rfl
      refine pe_ 2 (some 67) ?_ ?_ ?_ ?_ ?_; rotate_left
      ·intro w'; go_simp
       with_reducible rfl
      rotate_left
      ·simp only [nm_]; rfl
      refine pe_ 3 (some 68) ?_ ?_ ?_ ?_ ?_; rotate_left
      ·intro w'; go_simp
       with_reducible rfl
      rotate_left
      ·simp only [nm_]; rfl
      refine pe_ 5 (some 70) ?_ ?_ ?_ ?_ ?_; rotate_left
      ·intro w'; go_simp
       with_reducible rfl
      rotate_left
      ·simp only [nm_]; rfl
      refine pe_ 8 (some 73) ?_ ?_ ?_ ?_ ?_; rotate_left
      ·intro w'; go_simp
       with_reducible rfl
      rotate_left
      ·simp only [nm_]; rfl
      refine pe_ 11 (some 76) ?_ ?_ ?_ ?_ ?_; rotate_left
      ·intro w'; go_simp
       with_reducible rfl
      rotate_left
      ·simp only [nm_]; rfl
      refine pe_ 12 (some 77) ?_ ?_ ?_ ?_ ?_; rotate_left
      ·intro w'; go_simp
       with_reducible rfl
      rotate_left
      ·simp only [nm_]; rfl
      refine pe_ 13 (some 78) ?_ ?_ ?_ ?_ ?_; rotate_left
      ·intro w'; go_simp
       with_reducible rfl
      rotate_left
      ·simp only [nm_]; rfl
      refine pe_ 14 (some 79) ?_ ?_ ?_ ?_ ?_; rotate_left
      ·intro w'; go_simp
       with_reducible rfl
      rotate_left
      ·simp only [nm_]; rfl
      refine pe_ 16 (some 81) ?_ ?_ ?_ ?_ ?_; rotate_left
      ·intro w'; go_simp
       with_reducible rfl
      rotate_left
      ·simp only [nm_]; rfl
      refine pe_ 19 (some 84) ?_ ?_ ?_ ?_ ?_; rotate_left
      ·intro w'; go_simp
       with_reducible rfl
      rotate_left
      ·simp only [nm_]; rfl
      refine te_ 4 (some 69) hHeld ?_ ?_ ?_ ?_ ?_; rotate_left
      ·rintro w' ⟨s0, s1, s2⟩; go_simp
       with_reducible rfl
      rotate_left
      ·simp only [nm_]; rfl
      refine pe_ 6 (some 71) ?_ ?_ ?_ ?_ ?_; rotate_left
      ·intro w'; go_simp
       with_reducible rfl
      rotate_left
      ·simp only [nm_]; rfl
      refine te_ 7 (some 72) hHeld ?_ ?_ ?_ ?_ ?_; rotate_left
      ·rintro w' ⟨s0, s1, s2⟩; go_simp
       with_reducible rfl
      rotate_left
      ·simp only [nm_]; rfl
      refine pe_ 9 (some 74) ?_ ?_ ?_ ?_ ?_; rotate_left
      ·intro w'; go_simp
       with_reducible rfl
      rotate_left
      ·simp only [nm_]; rfl
      refine pe_ 10 (some 75) ?_ ?_ ?_ ?_ ?_; rotate_left
      ·intro w'; go_simp
       with_reducible rfl
      rotate_left
      ·simp only [nm_]; rfl
      refine te_ 15 (some 80) hHeld ?_ ?_ ?_ ?_ ?_; rotate_left
      ·rintro w' ⟨s0, s1, s2⟩; go_simp
       with_reducible rfl
      rotate_left
      ·simp only [nm_]; rfl
      refine pe_ 17 (some 82) ?_ ?_ ?_ ?_ ?_; rotate_left
      ·intro w'; go_simp
       with_reducible rfl
      rotate_left
      ·simp only [nm_]; rfl
      refine te_ 18 (some 83) hHeld ?_ ?_ ?_ ?_ ?_; rotate_left
      ·rintro w' ⟨s0, s1, s2⟩; go_simp
       with_reducible rfl
      rotate_left
      ·simp only [nm_]; rfl
      refine pe_ 20 (some 85) ?_ ?_ ?_ ?_ ?_; rotate_left
      ·intro w'; go_simp
       with_reducible rfl
      rotate_left
      ·simp only [nm_]; rfl
      refine pe_ 21 (some 86) ?_ ?_ ?_ ?_ ?_; rotate_left
      ·intro w'; go_simp
       with_reducible rfl
      rotate_left
      ·simp only [nm_]; rfl
      refine te_ 22 (some 87) hHeld ?_ ?_ ?_ ?_ ?_; rotate_left
      ·rintro w' ⟨s0, s1, s2⟩; go_simp
       with_reducible rfl
      rotate_left
      ·simp only [nm_]; rfl
      refine pe_ 23 (some 88) ?_ ?_ ?_ ?_ ?_; rotate_left
      ·intro w'; go_simp
       with_reducible rfl
      rotate_left
      ·simp only [nm_]; rfl
      refine lu_ (i := 24) (N := none) rfl rfl (by kernel_rfl) (by decide) (fun K hK => ?_)
      refine skip_ (w1 := ?_) (by rfl) rfl ?_ ?_
      rotate_left
      ·go_simp; rfl
      refine hK.out _ _ ?_; clear hK K; refine done_ (by kernel_rfl) ?_
      go_simp
      go_wp2_with fail
      have HBd := Lib.hid (zaw (zaf (j := n + 1) (v := .int .u64 (x : Int)) HB.out (Nat.le_refl _))); have HOd : Hid ((wr.setCell ⟨w.heap.size, n + 1, none⟩ (.int .u64 (x : Int))).drew.heap[w.heap.size]? = some (.cells (ul (behF sp X y (at0 + (j + 1)))) 128 (0, 0))) := Lib.hid (by
       rw [HBn.out]; exact zah (zat HO.out (n + 1) _ (ul_set _ (n + 1) x)))
      go_roundw
      case rel => first | exact ⟨j + 1, true, rfl, by rw [Int.natCast_add]; rfl, hj2, HAn, HBd, HOd⟩ | ((repeat apply Exists.intro); refine ⟨?_, rfl⟩; exact ⟨j + 1, true, rfl, by rw [Int.natCast_add]; rfl, hj2, HAn, HBd, HOd⟩)
      case measure => exact hmf
     ·have HAn : Hid (anyF sp X y (at0 + (j + 1)) = an) := Lib.hid (by rw [HE1.out, HAS.out, HF2.out, decide_eq_false hhit, Bool.or_false, HA.out])
      have HOn : Hid (wr.heap[w.heap.size]? = some (.cells (ul (behF sp X y (at0 + (j + 1)))) 128 (0, 0))) := Lib.hid (by
       have h : behF sp X y (at0 + (j + 1)) = behF sp X y n := by rw [HE1.out, HBS.out, HF2.out, if_neg hhit]
       rw [h]; exact HO.out)
      by_cases hsy : sy = (y : Int)
      ·subst hsy; have hx0 : x = 0 := Classical.byContradiction (fun h => hhit ⟨h, rfl⟩)
       subst hx0; clear hhit z0
       go_wp2_with fail
       go_roundw
       case rel => first | exact ⟨j + 1, an, rfl, by rw [Int.natCast_add]; rfl, hj2, HAn, HB, HOn⟩ | ((repeat apply Exists.intro); refine ⟨?_, rfl⟩; exact ⟨j + 1, an, rfl, by rw [Int.natCast_add]; rfl, hj2, HAn, HB, HOn⟩)
       case measure => exact hmf
      ·have hsb : decide (sy = (y : Int)) = false := decide_eq_false hsy; have hsb2 : (sy == (y : Int)) = false := by simpa using hsy
       clear hhit z0
       go_wp2_with fail
       go_roundw
       case rel => first | exact ⟨j + 1, an, rfl, by rw [Int.natCast_add]; rfl, hj2, HAn, HB, HOn⟩ | ((repeat apply Exists.intro); refine ⟨?_, rfl⟩; exact ⟨j + 1, an, rfl, by rw [Int.natCast_add]; rfl, hj2, HAn, HB, HOn⟩)
       case measure => exact hmf
    ·have hjb : decide ((j : Int) < (row.length : Int)) = false := decide_eq_false (by omega)
     have hlast : ¬ (fst X (at0 + row.length) ≠ 0 ∧ (rdSp sp (at0 + row.length)).f2 = (y : Int)) := fun h => by
      have h2 := h.2; rw [HRD.out row.length (Nat.le_refl _)] at h2; unfold symAt at h2; rw [List.getElem?_eq_none (Nat.le_refl _)] at h2; simp only at h2; omega
     have hje : j = row.length := by omega
     subst hje; have HAn : Hid (anyF sp X y (dots (ps.take (i + 1))) = an) := Lib.hid (by rw [HDT.out, show at0 + (row.length + 1) = at0 + row.length + 1 by omega, anyF_succ, decide_eq_false hlast, Bool.or_false, HA.out])
     have HOn : Hid (wr.heap[w.heap.size]? = some (.cells (ul (behF sp X y (dots (ps.take (i + 1))))) 128 (0, 0))) := Lib.hid (by
      have h : behF sp X y (dots (ps.take (i + 1))) = behF sp X y (at0 + row.length) := by
       rw [HDT.out, show at0 + (row.length + 1) = at0 + row.length + 1 by omega]
       show (if _ then _ else _) = _
       rw [if_neg hlast]
      rw [h]; exact HO.out)
     clear hlast
     go_wp2_with fail
     go_roundw
     case rel => first | exact ⟨i + 1, an, rfl, by rw [Int.natCast_add]; rfl, hi2, HAn, HB, HOn⟩ | ((repeat apply Exists.intro); refine ⟨?_, rfl⟩; exact ⟨i + 1, an, rfl, by rw [Int.natCast_add]; rfl, hi2, HAn, HB, HOn⟩)
     case measure => exact hme
  ·have hib : decide ((i : Int) < (ps.length : Int)) = false := decide_eq_false (by omega)
   have hie : i = ps.length := by omega
   subst hie; rw [List.take_length, ← HND.out] at HA HO; cases an with
   | false =>
    have HM : Hid (marksOf sp X y N = []) := Lib.hid ((anyF_iff X y N).1 HA.out)
    go_wp2_with fail
    go_ret2
    exact ⟨HB.out, .inl ⟨HM.out, rfl⟩⟩
   | true =>
    have HM : Hid (marksOf sp X y N ≠ []) := Lib.hid (fun h => by
     have := (anyF_iff (sp := sp) X y N).2 h; rw [HA.out] at this; cases this)
    have HCL := Lib.hid (HCLO.out wr w.heap.size HB.out (Nat.le_refl _) HM.out HO.out)
    go_wp2_with (go_at_call 73; refine Hid.out ?_)
    refine Lib.hid ?_; refine (HCL.out).mono ?_; rintro e2 V2 ⟨rfl, hbl, hbs⟩; have HB2 := Lib.hid (bel_below HB.out hbl (Nat.le_refl _)); have HS2 := Lib.hid hbs; clear hbl hbs
    go_wp2_with fail
    go_ret2
    exact ⟨HB2.out, .inr ⟨HM.out, w.heap.size, rfl, Nat.le_refl _, HS2.out⟩⟩
set_option maxRecDepth 100000 in
set_option maxHeartbeats 4000000 in
theorem is_any (A : Option Addr) (c : Nat) (l : List S112) (B : Option Addr) (d : Nat) (m : List S115) (C : Option Addr) (e : Nat) (ps : List S77) (w : World) (hg : GR w A c l B d m C e ps) (hp : 0 < ps.length) (hT : 1 ≤ l.length) :
  Calls Tryd.prog 105 #[.agg #[.slice A l.length c, .slice B m.length d, .slice C ps.length e], .agg #[.int .i64 0, .int .i64 0, .int .i64 0]] w fun e' w' => e' = .returned (.bool true) ∧ Below w.heap.size w w' := by
 have hb0 := zac (zac (Below.refl w.heap.size w) (.cells #[.slice A l.length c, .slice B m.length d, .slice C ps.length e] 51)) (.cells #[.int .i64 0, .int .i64 0, .int .i64 0] 178); have HB0 := Lib.hid hb0; have HX := Lib.hid (zad (zau w (.cells #[.slice A l.length c, .slice B m.length d, .slice C ps.length e] 51)) (.cells #[.int .i64 0, .int .i64 0, .int .i64 0] 178)); have hy := zau (w.alloc (.cells #[.slice A l.length c, .slice B m.length d, .slice C ps.length e] 51)) (.cells #[.int .i64 0, .int .i64 0, .int .i64 0] 178); rw [show (w.alloc (.cells #[.slice A l.length c, .slice B m.length d, .slice C ps.length e] 51)).heap.size = w.heap.size + 1 by rw [World.size_alloc]] at hy
 have HY := Lib.hid hy; obtain ⟨adp, Ap, cp, hCe, -, p1, hcp, -⟩ := at_T77 (hg.below hb0).hC 0 (Int.le_refl 0) (by omega)
 subst hCe; have hz : adp.add ((0 : Int).toNat * 2) = adp := rfl; rw [hz] at p1; have hr0 : (0 : Int) ≤ ((zal ps 0).f1.length : Int) := Int.natCast_nonneg _; generalize (zal ps 0).f1.length = nr at *; have hpi : (0 : Int) < (ps.length : Int) := by omega
 have hti : (0 : Int) < (l.length : Int) := by omega
 have hpd : decide ((0 : Int) < (ps.length : Int)) = true := decide_eq_true hpi; have htd : decide ((0 : Int) < (l.length : Int)) = true := decide_eq_true hti; have hrd : decide ((0 : Int) ≤ (nr : Int)) = true := decide_eq_true hr0; clear hb0 hg hy hz hcp
 go_enter Tryd.func105, Tryd.ntmps105
 go_wp2_with fail
 generalize (w.alloc (.cells #[.slice A l.length c, .slice B m.length d, .slice (some adp) ps.length e] 51)).alloc (.cells #[.int .i64 0, .int .i64 0, .int .i64 0] 178) = w1 at *; generalize w.heap.size + 1 = gy at *; generalize hgx : w.heap.size = gx at *; have x0 := zaa HX.out 0; have x2 := zaa HX.out 2; have y0 := zaa HY.out 0; have y1 := zaa HY.out 1; have y2 := zaa HY.out 2; simp at x0 x2 y0 y1 y2; refine wp_region_quiet_lit (by kernel_rfl) (by kernel_rfl) ?_
 repeat (go_big_quiet_step (fail))
 refine wpQuiet_nil ?_; intro _ hw1; obtain ⟨nq, hw2⟩ := hw1; subst hw2
 go_wp2_with fail
 go_ret; refine ⟨?_, ?_⟩
 ·show Ending.returned (.bool (decide (0 < l.length))) = _; rw [decide_eq_true (show 0 < l.length by omega)]
 ·have h := zab HB0.out nq
  first | exact h | (rw [hgx]; exact h)
theorem shl_nat {k : Nat} (hk : k < 64) : IntKind.u64.wrap (2 ^ min k 64) = ((2 ^ k : Nat) : Int) := by
 rw [show min k 64 = k by omega]
 have h2 : (2 : Nat) ^ k < 2 ^ 64 := Nat.pow_lt_pow_right (by decide) hk
 have h3 : ((2 : Int) ^ k) = ((2 ^ k : Nat) : Int) := by rw [Int.natCast_pow]; rfl
 rw [h3]; generalize 2 ^ k = x at *; exact IntWalk.u64_in _ (by omega)
set_option maxRecDepth 100000 in
theorem bit_any (k : Nat) (hk : k < 64) (w : World) : Calls Tryd.prog 106 #[.int .i64 (k : Int)] w fun e' w' => e' = .returned (.int .u64 ((2 ^ k : Nat) : Int)) ∧ w' = w := by
 have hw : IntKind.u64.wrap (k : Int) = (k : Int) := IntWalk.u64_in _ (by omega)
 have hs := shl_nat hk; have h0 : (0 : Int) ≤ (k : Int) := Int.natCast_nonneg _; generalize ((2 ^ k : Nat) : Int) = p at *; clear hk
 go_enter Tryd.func106, Tryd.ntmps106
 go_wp2_with fail
 go_ret; exact ⟨by rw [← hs]; rfl, rfl⟩
set_option maxRecDepth 100000 in
set_option maxHeartbeats 8000000 in
theorem of_start {w : World} {b : Nat} {A : Option Addr} {c : Nat} {l : List S112} {B : Option Addr} {d : Nat} {m : List S115} {C : Option Addr} {e : Nat} {ps : List S77} {KK nb : Nat} {Nn : List Bool} {Af : Option Addr} {cf : Nat} {FL : List Nat} {Aa : Option Addr} {ca : Nat} (hD : DB w b A c l B d m C e ps KK nb Nn Af cf FL Aa ca) (hf : Bld.Fair l.length m.length ps) (hpp : 0 < ps.length)
  (N : Nat) (hNd : N = dots ps) (ib : Nat) (hI : w.heap[ib]? = some (.cells #[.int .i64 0, .int .i64 0, .int .i64 0] 178 (0, 0))) :
  Calls Tryd.prog 72 #[.pointer (some ⟨b, 0, none⟩), .slice (some ⟨ib, 0, none⟩) 1 1] w fun e' w' => ∃ ob, e' = .returned (.slice (some ⟨ob, 0, none⟩) N N) ∧ Below w.heap.size w w' ∧ w.heap.size ≤ ob ∧ w'.heap[ob]? = some (.cells (ul (startV N)) 128 (0, 0)) := by
 have t1 := hf.t1; have t64 := hf.t64; have m128 := hf.m128; have hlen := hf.len; have htot := hf.tot; have hN1 : 1 ≤ N := by
  rw [hNd]; have h := dots_len ps; omega
 have hN20 : N ≤ 1048576 := by omega
 have hN0 : (0 : Int) < (N : Int) := by omega
 have hNn : 0 < N := by omega
 have HIS : Hid (∀ W, Below w.heap.size w W → Calls Tryd.prog 105 #[.agg #[.slice A l.length c, .slice B m.length d, .slice C ps.length e], .agg #[.int .i64 0, .int .i64 0, .int .i64 0]] W fun e' w' => e' = .returned (.bool true) ∧ Below W.heap.size W w') := Lib.hid (fun W hb =>
  is_any A c l B d m C e ps W (hD.g.below hb) hpp t1)
 have HBIT : Hid (∀ W : World, Calls Tryd.prog 106 #[.int .i64 0] W fun e' w' => e' = .returned (.int .u64 1) ∧ w' = W) := Lib.hid (fun W => bit_any 0 (by decide) W)
 have HD := Lib.hid hD; have HI := Lib.hid hI; have HND := Lib.hid hNd; have hk6 := zaa hD.bk 6; simp at hk6; rw [← hNd] at hk6; have hmk : ∀ W : World, (Instr.makeSlice 181 (.int .i64 (N : Int)) (.int .i64 (N : Int))).run Tryd.prog W = .ok (.slice (some ⟨W.heap.size, 0, none⟩) N N) (W.alloc (.cells (ul (List.replicate N 0)) 128)) := fun W => by
  rw [← ul_new, ← List.toArray_replicate, ← made_one]; exact run_make_row' 181 128 (.int .u64 0) 8 Tryd.underlying181 info128 rfl .i64 .i64 N (by omega) (by omega) W
 obtain ⟨aa, haa, ha0⟩ := at_kN hD.at_ hpp; subst haa; have haz : (atS 0 ps).getD 0 0 = 0 := by
  cases ps with
  | nil => simp at hpp
  | cons p ps => rfl
 rw [haz] at ha0; have HA0 : Hid (w.cell? aa = some (.int .i64 0)) := Lib.hid ha0; have hpi : (0 : Int) < (ps.length : Int) := by omega
 clear hD hf hI hNd haz ha0
 go_enter Tryd.func72, Tryd.ntmps72
 go_wp2_with fail
 have HB0 := Lib.hid (zac (Below.refl w.heap.size w) (.cells (ul (List.replicate N 0)) 128)); have HO0 := Lib.hid (zau w (.cells (ul (List.replicate N 0)) 128)); clear hmk hk6; generalize w.alloc (.cells (ul (List.replicate N 0)) 128) = V0 at *
 go_loopw [6] (fun v6 w' => (v6 = .int .i64 0 ∧ Hid (Below w.heap.size w w') ∧ Hid (w'.heap[w.heap.size]? = some (.cells (ul (List.replicate N 0)) 128 (0, 0)))) ∨ (v6 = .int .i64 1 ∧ Hid (Below w.heap.size w w') ∧ Hid (w'.heap[w.heap.size]? = some (.cells (ul (startV N)) 128 (0, 0))))) (fun v6 _ => 1 - (intOf v6).toNat)
 case atStart => exact .inl ⟨rfl, HB0, HO0⟩
 case round =>
  clear HB0 HO0; rcases hrel with ⟨rfl, HB, HO⟩ | ⟨rfl, HB, HO⟩
  ·have hmx : Tryd.prog.follows .mixedOrders = true := by kernel_rfl
   go_wp2_with fail
   refine start_ (n := 10) (S := fun w' => w'.cell? ⟨b, 0, none⟩ = some (.slice A l.length c) ∧ w'.cell? ⟨b, 1, none⟩ = some (.slice B m.length d) ∧ w'.cell? ⟨b, 2, none⟩ = some (.slice C ps.length e) ∧ w'.cell? ⟨ib, 0, none⟩ = some (.int .i64 0) ∧ w'.cell? ⟨ib, 1, none⟩ = some (.int .i64 0) ∧ w'.cell? ⟨ib, 2, none⟩ = some (.int .i64 0)) (ds := []) #[false, false, false, false, false, false, false, false, false, false] (by kernel_rfl) rfl rfl ⟨(zaa (zak HD.out.bk (zaw HB.out)) 0), (zaa (zak HD.out.bk (zaw HB.out)) 1), (zaa (zak HD.out.bk (zaw HB.out)) 2), (zaa (zak HI.out (zaw HB.out)) 0), (zaa (zak HI.out (zaw HB.out)) 1), (zaa (zak HI.out (zaw HB.out)) 2)⟩ (fun hHeld => ?_)
   refine pe_ 0 (some 20) ?_ ?_ ?_ ?_ ?_; rotate_left
   ·intro w'; go_simp
    with_reducible rfl
   rotate_left
   ·simp only [nm_]; rfl
   refine pe_ 1 (some 21) ?_ ?_ ?_ ?_ ?_; rotate_left
   ·intro w'; go_simp
    with_reducible rfl
   rotate_left
   ·simp only [nm_]; rfl
   refine pe_ 2 (some 22) ?_ ?_ ?_ ?_ ?_; rotate_left
   ·intro w'; go_simp
    with_reducible rfl
   rotate_left
   ·simp only [nm_]; rfl
   refine pe_ 4 (some 24) ?_ ?_ ?_ ?_ ?_; rotate_left
   ·intro w'; go_simp
    with_reducible rfl
   rotate_left
   ·simp only [nm_]; rfl
   refine pe_ 5 (some 25) ?_ ?_ ?_ ?_ ?_; rotate_left
   ·intro w'; go_simp
    with_reducible rfl
   rotate_left
   ·simp only [nm_]; rfl
   refine pe_ 6 (some 26) ?_ ?_ ?_ ?_ ?_; rotate_left
   ·intro w'; go_simp
    with_reducible rfl
   rotate_left
   ·simp only [nm_]; rfl
   refine te_ 3 (some 23) hHeld ?_ ?_ ?_ ?_ ?_; rotate_left
   ·rintro w' ⟨s0, s1, s2, s3, s4, s5⟩; go_simp
    with_reducible rfl
   rotate_left
   ·simp only [nm_]; rfl
   refine te_ 7 (some 27) hHeld ?_ ?_ ?_ ?_ ?_; rotate_left
   ·rintro w' ⟨s0, s1, s2, s3, s4, s5⟩; go_simp
    with_reducible rfl
   rotate_left
   ·simp only [nm_]; rfl
   refine ou_ (i := 8) (N := some 28) rfl rfl (by kernel_rfl) (by decide) (fun K hK => ?_)
   refine goes_ Tryd.func105 (by kernel_rfl) rfl #[.agg #[.slice A l.length c, .slice B m.length d, .slice C ps.length e], .agg #[.int .i64 0, .int .i64 0, .int .i64 0]] (by rfl) rfl rfl (by simp only [List.map_toArray, List.map_cons, List.map_nil]; rfl) ?_
   with_reducible refine (HIS.out _ (zaw HB.out)).mono ?_
   rintro e3 V3 ⟨rfl, hb3⟩; refine ⟨_, rfl, ?_⟩; refine hK.out _ _ ⟨(zaa (zak HD.out.bk (zam (zaw HB.out) hb3)) 0), (zaa (zak HD.out.bk (zam (zaw HB.out) hb3)) 1), (zaa (zak HD.out.bk (zam (zaw HB.out) hb3)) 2), (zaa (zak HI.out (zam (zaw HB.out) hb3)) 0), (zaa (zak HI.out (zam (zaw HB.out) hb3)) 1), (zaa (zak HI.out (zam (zaw HB.out) hb3)) 2)⟩ (fun hHeld => ?_)
   clear hK K; refine norm_ (a' := ?_) ?_ ?_; rotate_left
   ·show Act.put _ (some 28) _ = _; simp only [nm_]; rfl
   refine pe_ 9 (some 7) ?_ ?_ ?_ ?_ ?_; rotate_left
   ·intro w'; go_simp
    with_reducible rfl
   rotate_left
   ·simp only [nm_]; rfl
   refine done_ (by kernel_rfl) ?_
   go_simp; have HB3 := Lib.hid (zam (zaw HB.out) hb3); have HO3 := Lib.hid (zak (zah HO.out) hb3); clear hb3; have i0 := zaa (zak HI.out HB3.out) 0; have i1 := zaa (zak HI.out HB3.out) 1; have i2 := zaa (zak HI.out HB3.out) 2; have k5 := zaa (zak HD.out.bk HB3.out) 5; have a0 : V3.cell? aa = some (.int .i64 0) := zan HB3.out HA0.out; simp at i0 i1 i2 k5
   go_wp2_with fail
   refine wp_region_quiet_lit (by kernel_rfl) (by kernel_rfl) ?_
   repeat (go_big_quiet_step (fail))
   refine wpQuiet_nil ?_; intro _ hw1; obtain ⟨nq, hw2⟩ := hw1; subst hw2; have HB4 := Lib.hid (zab HB3.out nq); have HO4 := Lib.hid (zai HO3.out nq); clear i0 i1 i2 k5 a0 HB HO HB3 HO3; generalize V3.drewN nq = V4 at *; have z0 := (zaa HO4.out 0).trans (ul_get (by rw [List.length_replicate]; omega))
   have z1 := zae HO4.out 0; rw [fst_zeros] at z0
   go_wp2_with fail
   refine start_ (n := 15) (S := fun w' => w'.cell? ⟨w.heap.size, 0, none⟩ = some (.int .u64 0) ∧ w'.cell? ⟨ib, 2, none⟩ = some (.int .i64 0)) (ds := [14]) #[false, false, false, false, false, false, false, false, false, false, false, false, false, false, false] (by kernel_rfl) rfl rfl ⟨(z0), (zaa (zah (zak HI.out HB4.out)) 2)⟩ (fun hHeld => ?_)
   refine pe_ 0 (some 47) ?_ ?_ ?_ ?_ ?_; rotate_left
   ·intro w'; go_simp
    with_reducible rfl
   rotate_left
   ·simp only [nm_]; rfl
   refine pe_ 1 (some 48) ?_ ?_ ?_ ?_ ?_; rotate_left
   ·intro w'; go_simp
    with_reducible rfl
   rotate_left
   ·simp only [nm_]; rfl
   refine pe_ 2 (some 49) ?_ ?_ ?_ ?_ ?_; rotate_left
   ·intro w'; go_simp
    with_reducible rfl
   rotate_left
   ·simp only [nm_]; rfl
   refine pe_ 3 (some 50) ?_ ?_ ?_ ?_ ?_; rotate_left
   ·intro w'; go_simp
    with_reducible rfl
   rotate_left
   ·simp only [nm_]; rfl
   refine pe_ 4 (some 51) ?_ ?_ ?_ ?_ ?_; rotate_left
   ·intro w'; go_simp
    with_reducible rfl
   rotate_left
   ·simp only [nm_]; rfl
   refine pe_ 6 (some 53) ?_ ?_ ?_ ?_ ?_; rotate_left
   ·intro w'; go_simp
    with_reducible rfl
   rotate_left
   ·simp only [nm_]; rfl
   refine pe_ 7 (some 54) ?_ ?_ ?_ ?_ ?_; rotate_left
   ·intro w'; go_simp
    with_reducible rfl
   rotate_left
   ·simp only [nm_]; rfl
   refine pe_ 8 (some 55) ?_ ?_ ?_ ?_ ?_; rotate_left
   ·intro w'; go_simp
    with_reducible rfl
   rotate_left
   ·simp only [nm_]; rfl
   refine pe_ 9 (some 56) ?_ ?_ ?_ ?_ ?_; rotate_left
   ·intro w'; go_simp
    with_reducible rfl
   rotate_left
   ·simp only [nm_]; rfl
   refine te_ 5 (some 52) hHeld ?_ ?_ ?_ ?_ ?_; rotate_left
   ·rintro w' ⟨s0, s1⟩; go_simp
    with_reducible rfl
   rotate_left
   ·simp only [nm_]; rfl
   refine te_ 10 (some 57) hHeld ?_ ?_ ?_ ?_ ?_; rotate_left
   ·rintro w' ⟨s0, s1⟩; go_simp
    with_reducible rfl
   rotate_left
   ·simp only [nm_]; rfl
   refine ou_ (i := 11) (N := some 58) rfl rfl (by kernel_rfl) (by decide) (fun K hK => ?_)
   refine goes_ Tryd.func106 (by kernel_rfl) rfl #[.int .i64 0] (by rfl) rfl rfl (by simp only [List.map_toArray, List.map_cons, List.map_nil]; rfl) ?_
   with_reducible refine (HBIT.out _).mono ?_
   rintro e6 w6 ⟨rfl, rfl⟩; refine ⟨_, rfl, ?_⟩; refine hK.out _ _ ⟨(z0), (zaa (zah (zak HI.out HB4.out)) 2)⟩ (fun hHeld => ?_)
   clear hK K; refine norm_ (a' := ?_) ?_ ?_; rotate_left
   ·show Act.put _ (some 58) _ = _; simp only [nm_]; rfl
   refine pe_ 12 (some 59) ?_ ?_ ?_ ?_ ?_; rotate_left
   ·intro w'; go_simp
    with_reducible rfl
   rotate_left
   ·simp only [nm_]; rfl
   refine pe_ 13 (some 60) ?_ ?_ ?_ ?_ ?_; rotate_left
   ·intro w'; go_simp
    with_reducible rfl
   rotate_left
   ·simp only [nm_]; rfl
   refine lu_ (i := 14) (N := none) rfl rfl (by kernel_rfl) (by decide) (fun K hK => ?_)
   refine skip_ (w1 := ?_) (by rfl) rfl ?_ ?_
   rotate_left
   ·go_simp; rfl
   refine hK.out _ _ ?_; clear hK K; refine done_ (by kernel_rfl) ?_
   go_simp
   go_wp2_with fail
   have HB5 := Lib.hid (zaw (zaf (j := 0) (v := .int .u64 1) HB4.out (Nat.le_refl _))); have HO5 : Hid ((V4.setCell ⟨w.heap.size, 0, none⟩ (.int .u64 1)).drew.heap[w.heap.size]? = some (.cells (ul (startV N)) 128 (0, 0))) := Lib.hid (by
    exact zah (zat HO4.out 0 _ (ul_set _ 0 1)))
   go_roundw
   case rel => first | exact .inr ⟨rfl, HB5, HO5⟩ | ((repeat apply Exists.intro); refine ⟨?_, rfl⟩; exact .inr ⟨rfl, HB5, HO5⟩)
   case measure => exact Nat.lt_succ_self 0
  ·go_wp2_with fail
   go_ret; exact ⟨w.heap.size, rfl, HB.out, Nat.le_refl _, HO.out⟩
end Doc
end Go.Proofs.YtcijanmckhlpiaaDoor
namespace Go.Proofs.YtcijanmckhlpiaaDoor
open Go.RowKit Go.Proofs.YtcijanmckhlpiaaDoorW.PrintWords Go.Proofs.YtcijanmckhlpiaaDoor.PTableBuilds
namespace Doc
open Bld
def addA (L : List S93) (a : S93) : List S93 := if L.any (fun b => sameA b a) = true then L else L ++ [a]
def shL (goes : List Int) (t : Nat) : List S93 := if 0 ≤ goes.getD t 0 then [⟨1, goes.getD t 0⟩] else []
def itA (x : S178) : S93 := if x.f0 = 0 then ⟨3, 0⟩ else ⟨2, x.f0⟩
def itL (ps : List S77) (t : Nat) (L : List S93) (x : S178) : List S93 := if x.f2 ≠ (t : Int) ∨ x.f1 < ((zal ps x.f0).f1.length : Int) then L else addA L (itA x)
def actsL (ps : List S77) (set : List S178) (goes : List Int) (t : Nat) : List S93 := set.foldl (itL ps t) (shL goes t)
theorem sameA_iff {a b : S93} : sameA a b = true ↔ a = b := by
 unfold sameA; rw [Bool.and_eq_true, beq_iff_eq, beq_iff_eq]; constructor
 ·rintro ⟨h1, h2⟩; cases a; cases b; simp_all
 ·rintro rfl; exact ⟨rfl, rfl⟩
theorem any_mem {L : List S93} {a : S93} : L.any (fun b => sameA b a) = true ↔ a ∈ L := by
 rw [List.any_eq_true]; constructor
 ·rintro ⟨b, h1, h2⟩; rw [sameA_iff] at h2; exact h2 ▸ h1
 ·intro h; exact ⟨a, h, sameA_iff.2 rfl⟩
def BadL (T : Nat) (b : Option Nat) (L : Nat → List S93) : Prop := match b with
 | none => ∀ t, t < T → (L t).length ≤ 1
 | some c => c < T ∧ 1 < (L c).length ∧ ∀ t, t < c → (L t).length ≤ 1
structure RI (T : Nat) (st : RS) (L : Nat → List S93) : Prop where
 len : st.1.length = T
 at_ : ∀ t, t < T → rd93 st.1 t = (L t).headD ⟨0, 0⟩
 nz : ∀ t, t < T → ∀ a ∈ L t, a.f0 ≠ 0
 bad : BadL T st.2 L
theorem rd93_set {o : List S93} {t u : Nat} {a : S93} : rd93 (o.set t a) u = if t = u ∧ t < o.length then a else rd93 o u := by
 unfold rd93 rd_T93; rw [Int.toNat_natCast, List.getD_eq_getElem?_getD, List.getElem?_set]; by_cases h : t = u
 ·subst h; by_cases hl : t < o.length
  ·rw [if_pos rfl, if_pos hl, if_pos ⟨rfl, hl⟩]; rfl
  ·rw [if_pos rfl, if_neg hl, if_neg (fun c => hl c.2), List.getD_eq_getElem?_getD, List.getElem?_eq_none (by omega)]
 ·rw [if_neg h, if_neg (fun c => h c.1), List.getD_eq_getElem?_getD]
theorem RI.congr {T : Nat} {st : RS} {L L' : Nat → List S93} (h : RI T st L) (e : ∀ t, t < T → L t = L' t) : RI T st L' := by
 refine ⟨h.len, fun t ht => by rw [← e t ht]; exact h.at_ t ht, fun t ht => by rw [← e t ht]; exact h.nz t ht, ?_⟩
 have hb := h.bad; unfold BadL at *; cases hc : st.2 with
 | none =>
  rw [hc] at hb; exact fun t ht => by rw [← e t ht]; exact hb t ht
 | some c =>
  rw [hc] at hb; exact ⟨hb.1, by rw [← e c hb.1]; exact hb.2.1, fun t ht => by rw [← e t (Nat.lt_trans ht hb.1)]; exact hb.2.2 t ht⟩
theorem RI.put {T : Nat} {st : RS} {L : Nat → List S93} (h : RI T st L) {t : Nat} (ht : t < T) {a : S93} (ha : a.f0 ≠ 0) : RI T (putR st t a) (fun u => if u = t then addA (L u) a else L u) := by
 have hat := h.at_ t ht; cases hL : L t with
 | nil =>
  have h0 : (rd93 st.1 t).f0 = 0 := by rw [hat, hL]; rfl
  have e : addA [] a = [a] := rfl; unfold putR; rw [if_pos h0]; refine ⟨by rw [List.length_set]; exact h.len, fun u hu => ?_, fun u hu b hb => ?_, ?_⟩
  ·rw [rd93_set]; by_cases hc : t = u
   ·subst hc; rw [if_pos ⟨rfl, by rw [h.len]; exact hu⟩, if_pos rfl, hL]; rfl
   ·rw [if_neg (fun c => hc c.1), if_neg (fun c => hc c.symm)]
    exact h.at_ u hu
  ·by_cases hc : u = t
   ·subst hc; rw [if_pos rfl, hL, e, List.mem_singleton] at hb; rw [hb]; exact ha
   ·rw [if_neg hc] at hb; exact h.nz u hu b hb
  ·have hb := h.bad; have hlen : ∀ u, (if u = t then addA (L u) a else L u).length ≤ 1 ↔ (L u).length ≤ 1 := fun u => by
    by_cases hc : u = t
    ·subst hc; rw [if_pos rfl, hL, e]; simp
    ·rw [if_neg hc]
   unfold BadL at *; cases hs : st.2 with
   | none =>
    rw [hs] at hb; exact fun u hu => (hlen u).2 (hb u hu)
   | some c =>
    rw [hs] at hb; exact ⟨hb.1, Nat.lt_of_not_le (fun c1 => Nat.not_le_of_lt hb.2.1 ((hlen c).1 c1)), fun u hu => (hlen u).2 (hb.2.2 u hu)⟩
 | cons x xs =>
  have hx : rd93 st.1 t = x := by rw [hat, hL]; rfl
  have hx0 : x.f0 ≠ 0 := h.nz t ht x (by rw [hL]; exact List.mem_cons_self)
  unfold putR; rw [hx, if_neg hx0]; have hat2 : ∀ u, u < T → rd93 st.1 u = ((if u = t then addA (L u) a else L u) : List S93).headD ⟨0, 0⟩ := fun u hu => by
   by_cases hc : u = t
   ·subst hc; rw [if_pos rfl, hL, hx]; unfold addA
    split <;> rfl
   ·rw [if_neg hc]; exact h.at_ u hu
  have hnz2 : ∀ u, u < T → ∀ b ∈ (if u = t then addA (L u) a else L u : List S93), b.f0 ≠ 0 := fun u hu b hb => by
   by_cases hc : u = t
   ·subst hc; rw [if_pos rfl] at hb; unfold addA at hb
    split at hb
    ·exact h.nz u hu b hb
    ·rcases List.mem_append.1 hb with hb | hb
     ·exact h.nz u hu b hb
     ·rw [List.mem_singleton.1 hb]; exact ha
   ·rw [if_neg hc] at hb; exact h.nz u hu b hb
  by_cases hs : sameA x a = true
  ·rw [if_neg (fun c => by rw [hs] at c; exact absurd c.1 (by decide))]
   have e : ∀ u, u < T → L u = if u = t then addA (L u) a else L u := fun u hu => by
    by_cases hc : u = t
    ·subst hc; rw [if_pos rfl]; unfold addA; rw [if_pos (by rw [hL, List.any_cons, hs, Bool.true_or])]
    ·rw [if_neg hc]
   exact h.congr e
  ·have hs' : sameA x a = false := by simpa using hs
   have hlong : 1 < (addA (L t) a).length := by
    rw [hL]; unfold addA
    split
    ·rename_i hm
     rw [any_mem] at hm; rcases List.mem_cons.1 hm with rfl | hm
     ·exact absurd (sameA_iff.2 rfl) hs
     ·have := List.length_pos_of_mem hm; simp only [List.length_cons]; omega
    ·simp
   have hlen : ∀ u, u ≠ t → (if u = t then addA (L u) a else L u) = L u := fun u hu => if_neg hu
   have hb := h.bad; by_cases hl : lessB st.2 t = true
   ·rw [if_pos ⟨hs', hl⟩]; refine ⟨h.len, hat2, hnz2, ht, (by show 1 < (if t = t then addA (L t) a else L t).length; rw [if_pos rfl]; exact hlong), fun u hu => ?_⟩
    show (if u = t then addA (L u) a else L u).length ≤ 1
    rw [hlen u (by omega)]
    unfold BadL at hb; cases hc : st.2 with
    | none => rw [hc] at hb; exact hb u (by omega)
    | some c =>
     rw [hc] at hb hl; have hl2 : t < c := of_decide_eq_true hl; exact hb.2.2 u (by omega)
   ·rw [if_neg (fun c => hl c.2)]
    refine ⟨h.len, hat2, hnz2, ?_⟩; unfold BadL at *; cases hc : st.2 with
    | none => rw [hc] at hl; exact absurd rfl hl
    | some c =>
     rw [hc] at hb hl; have hl2 : ¬ t < c := fun c1 => hl (decide_eq_true c1)
     refine ⟨hb.1, ?_, fun u hu => ?_⟩
     ·show 1 < (if c = t then addA (L c) a else L c).length
      by_cases he : c = t
      ·rw [if_pos he, he]; exact hlong
      ·rw [hlen c he]; exact hb.2.1
     ·show (if u = t then addA (L u) a else L u).length ≤ 1
      rw [hlen u (by omega)]; exact hb.2.2 u hu
theorem ri_shift {T : Nat} (goes : List Int) : ∀ n, n ≤ T → RI T ((List.range n).foldl (shiftR goes) (List.replicate T ⟨0, 0⟩, none)) (fun t => if t < n then shL goes t else [])
 | 0, _ => by
  refine ⟨List.length_replicate, fun t ht => ?_, fun t ht a ha => ?_, fun t ht => ?_⟩
  ·rw [if_neg (Nat.not_lt_zero _)]; show rd93 (List.replicate T ⟨0, 0⟩) t = ⟨0, 0⟩; unfold rd93 rd_T93; rw [Int.toNat_natCast, List.getD_eq_getElem?_getD, List.getElem?_replicate, if_pos ht]; rfl
  ·rw [if_neg (Nat.not_lt_zero _)] at ha; cases ha
  ·rw [if_neg (Nat.not_lt_zero _)]; exact Nat.zero_le _
 | n + 1, hn => by
  have ih := ri_shift (T := T) goes n (by omega)
  rw [List.range_succ, List.foldl_append, List.foldl_cons, List.foldl_nil]; generalize (List.range n).foldl (shiftR goes) (List.replicate T ⟨0, 0⟩, none) = st at *; unfold shiftR; by_cases h : 0 ≤ goes.getD n 0
  ·rw [if_pos h]; refine (ih.put (t := n) (a := ⟨1, goes.getD n 0⟩) (by omega) (show (1 : Int) ≠ 0 by decide)).congr (fun t ht => ?_)
   by_cases hc : t = n
   ·subst hc; rw [if_pos rfl, if_neg (Nat.lt_irrefl _), if_pos (Nat.lt_succ_self _)]; unfold shL; rw [if_pos h]; rfl
   ·rw [if_neg hc]; by_cases h2 : t < n
    ·rw [if_pos h2, if_pos (by omega)]
    ·rw [if_neg h2, if_neg (by omega)]
  ·rw [if_neg h]; refine ih.congr (fun t ht => ?_)
   by_cases hc : t = n
   ·subst hc; rw [if_neg (Nat.lt_irrefl _), if_pos (Nat.lt_succ_self _)]; unfold shL; rw [if_neg h]
   ·by_cases h2 : t < n
    ·rw [if_pos h2, if_pos (by omega)]
    ·rw [if_neg h2, if_neg (by omega)]
theorem ri_item {T : Nat} {ps : List S77} {st : RS} {L : Nat → List S93} (h : RI T st L) {x : S178} (h0 : 0 ≤ x.f0) (h2 : 0 ≤ x.f2) (h3 : x.f2 < T) : RI T (itemR ps st x) (fun t => itL ps t (L t) x) := by
 unfold itemR; by_cases hd : x.f1 < ((zal ps x.f0).f1.length : Int)
 ·rw [if_pos hd]; exact h.congr (fun t _ => by unfold itL; rw [if_pos (.inr hd)])
 ·rw [if_neg hd]; have key : ∀ a : S93, itA x = a → a.f0 ≠ 0 → RI T (putR st x.f2.toNat a) (fun t => itL ps t (L t) x) := fun a he ha => by
   refine (h.put (t := x.f2.toNat) (a := a) (by omega) ha).congr (fun t ht => ?_)
   unfold itL; by_cases hc : t = x.f2.toNat
   ·rw [if_pos hc, if_neg (fun c => by rcases c with c | c; omega; exact hd c), he]
   ·rw [if_neg hc, if_pos (.inl (by omega))]
  by_cases hz : x.f0 = 0
  ·rw [if_pos hz]; exact key _ (by unfold itA; rw [if_pos hz]) (by decide)
  ·rw [if_neg hz]; exact key _ (by unfold itA; rw [if_neg hz]) (show (2 : Int) ≠ 0 by decide)
theorem ri_items {T : Nat} {ps : List S77} : ∀ (set : List S178) {st : RS} {L : Nat → List S93}, RI T st L → (∀ x ∈ set, 0 ≤ x.f0 ∧ 0 ≤ x.f2 ∧ x.f2 < T) → RI T (set.foldl (itemR ps) st) (fun t => set.foldl (itL ps t) (L t))
 | [], st, L, h, _ => h
 | x :: set, st, L, h, hx => by
  obtain ⟨a, b, c⟩ := hx x (by simp)
  exact ri_items set (ri_item h a b c) (fun y hy => hx y (by simp [hy]))
theorem row_acts {T : Nat} {ps : List S77} {set : List S178} {goes : List Int} (hf : FitI T ps set) : RI T (rowS T ps set goes) (actsL ps set goes) := by
 unfold rowS; refine (ri_items (ps := ps) set (ri_shift goes T (Nat.le_refl _)) (fun x hx => ?_)).congr (fun t ht => ?_)
 ·obtain ⟨a, b, c, d⟩ := hf x hx; exact ⟨a, c, d⟩
 ·rw [if_pos ht]; rfl
theorem ri_bad {T : Nat} {st : RS} {L : Nat → List S93} (h : RI T st L) {a : Nat} (ha : a < T) (h1 : 1 < (L a).length) (h2 : ∀ t, t < a → (L t).length ≤ 1) : st.2 = some a := by
 have hb := h.bad; unfold BadL at hb; cases hc : st.2 with
 | none => rw [hc] at hb; have := hb a ha; omega
 | some c =>
  rw [hc] at hb; rcases Nat.lt_trichotomy a c with h3 | h3 | h3
  ·have := hb.2.2 a h3; omega
  ·rw [h3]
  ·have := h2 c h3; have := hb.2.1; omega
theorem ri_good {T : Nat} {st : RS} {L : Nat → List S93} (h : RI T st L) (h2 : ∀ t, t < T → (L t).length ≤ 1) : st.2 = none ∧ st.1 = (List.range T).map fun t => (L t).headD ⟨0, 0⟩ := by
 constructor
 ·have hb := h.bad; unfold BadL at hb; cases hc : st.2 with
  | none => rfl
  | some c => rw [hc] at hb; have := h2 c hb.1; have := hb.2.1; omega
 ·apply List.ext_getElem (by rw [h.len]; simp)
  intro n h3 h4; have := h.at_ n (by rw [← h.len]; exact h3)
  unfold rd93 rd_T93 at this; rw [Int.toNat_natCast, List.getD_eq_getElem?_getD, List.getElem?_eq_getElem h3] at this; rw [List.getElem_map, List.getElem_range, ← this]; rfl
theorem bits_filter {T x : Nat} (hT : T ≤ 64) (hx : x < 2 ^ T) : bitsOf x = (List.range T).filter fun k => x.testBit k := by
 unfold bitsOf; have e : ∀ n, (List.range (T + n)).filter (fun k => x.testBit k) = (List.range T).filter fun k => x.testBit k := fun n => by
  induction n with
  | zero => rfl
  | succ n ih =>
   rw [← Nat.add_assoc, List.range_succ, List.filter_append, ih, List.filter_cons, if_neg, List.filter_nil, List.append_nil]; rw [Nat.testBit_lt_two_pow (Nat.lt_of_lt_of_le hx (Nat.pow_le_pow_right (by decide) (by omega)))]
   decide
 have := e (64 - T); rw [show T + (64 - T) = 64 by omega] at this
 exact this
end Doc
end Go.Proofs.YtcijanmckhlpiaaDoor
namespace Go.Proofs.YtcijanmckhlpiaaDoor
open Go.RowKit Go.Proofs.YtcijanmckhlpiaaDoorW.PrintWords Go.Proofs.YtcijanmckhlpiaaDoorW.PrintLast Go.Proofs.YtcijanmckhlpiaaDoorW.PrintMore Go.Proofs.YtcijanmckhlpiaaDoor.PTableBuilds
namespace Doc
open Bld
def itK (sp : List S230) (n x k : Nat) : List S178 := ((List.range k).filter fun q => x.testBit q).map (itemOf sp n)
theorem itK_succ (sp : List S230) (n x k : Nat) : itK sp n x (k + 1) = if x.testBit k = true then itK sp n x k ++ [itemOf sp n k] else itK sp n x k := by
 unfold itK; rw [List.range_succ, List.filter_append, List.map_append, List.filter_cons]
 split
 ·rfl
 ·simp
theorem itK_len (sp : List S230) (n x k : Nat) : (itK sp n x k).length ≤ k := by
 unfold itK; rw [List.length_map]; exact Nat.le_trans (List.length_filter_le _ _) (by rw [List.length_range]; exact Nat.le_refl _)
theorem itK_all (sp : List S230) {n x T : Nat} (hT : T ≤ 64) (hx : x < 2 ^ T) : itK sp n x T = (bitsOf x).map (itemOf sp n) := by
 rw [bits_filter hT hx]; rfl
theorem itK_none (sp : List S230) (n : Nat) : itK sp n 0 0 = (bitsOf 0).map (itemOf sp n) := by
 rw [bitsOf_zero]; rfl
theorem and_bit (x k : Nat) : x &&& 2 ^ k = if x.testBit k = true then 2 ^ k else 0 := by
 apply Nat.eq_of_testBit_eq; intro j; rw [Nat.testBit_and, Nat.testBit_two_pow]; by_cases h : k = j
 ·subst h; cases x.testBit k <;> simp
 ·rw [decide_eq_false h, Bool.and_false]
  split
  ·rw [Nat.testBit_two_pow, decide_eq_false h]
  ·rw [Nat.zero_testBit]
theorem pow_lt64 {k : Nat} (hk : k < 64) : 2 ^ k < zbi := Nat.pow_lt_pow_right (by decide) hk
set_option maxRecDepth 100000 in
set_option maxHeartbeats 8000000 in
theorem sorted_any {w : World} {b : Nat} {A : Option Addr} {c : Nat} {l : List S112} {B : Option Addr} {d : Nat} {m : List S115} {C : Option Addr} {e : Nat} {ps : List S77} {KK nb : Nat} {Nn : List Bool} {Af : Option Addr} {cf : Nat} {FL : List Nat} {Aa : Option Addr} {ca : Nat} (hD : DB w b A c l B d m C e ps KK nb Nn Af cf FL Aa ca) (hf : Bld.Fair l.length m.length ps)
  (F : List Nat) (V : List Bool) (N : Nat) (hNd : N = dots ps) (As : Option Addr) (cs : Nat) (X : List Nat) (hX : SetOk l.length N X) (hS : kU.C w As N X) :
  Calls Tryd.prog 76 #[.pointer (some ⟨b, 0, none⟩), .slice As N cs] w (RetR k178 178 (zbl (zbc F V 0 ps) X N) w) := by
 have t1 := hf.t1; have t64 := hf.t64; have hlen := hf.len; have htot := hf.tot; have hspl := spotsS_len F V ps 0; obtain ⟨sp, hsp⟩ : ∃ sp, sp = zbc F V 0 ps := ⟨_, rfl⟩; have HD := Lib.hid hD; have HF := Lib.hid hf; have HSP := Lib.hid hsp; have HX := Lib.hid hX; have HS := Lib.hid hS; have HND := Lib.hid hNd; have hN20 : N ≤ 1048576 := by omega
 rw [← hsp]; have HB0 := Lib.hid (Below.refl w.heap.size w); have HR0 : Hid (k178.R 178 w w.heap.size tru (.slice none 0 0) (zbl sp X (dots (ps.take 0)))) := Lib.hid (Kd.R_nil _ _ _ _ _); clear hD hf hsp hX hS hspl hNd
 go_enter Tryd.func76, Tryd.ntmps76
 go_wp2_with fail
 go_loopw [5, 6] (fun v5 v6 w' => ∃ (i : Nat) (A5 : Option Addr) (n5 c5 : Nat), v6 = .int .i64 (i : Int) ∧ v5 = .slice A5 n5 c5 ∧ i ≤ ps.length ∧ Hid (k178.R 178 w' w.heap.size tru (.slice A5 n5 c5) (zbl sp X (dots (ps.take i)))) ∧ Hid (Below w.heap.size w w')) (fun _ v6 _ => ps.length - (intOf v6).toNat)
 case atStart => exact ⟨0, _, _, _, rfl, rfl, Nat.zero_le _, HR0, HB0⟩
 case round =>
  clear HR0 HB0; obtain ⟨i, A5, n5, c5, rfl, rfl, hi, HR, HB⟩ := hrel; have k2 := zaa (zak HD.out.bk HB.out) 2; simp at k2; by_cases hil : i < ps.length
  ·have hib : decide ((i : Int) < (ps.length : Int)) = true := decide_eq_true (by omega)
   have hi0 : (0 : Int) ≤ (i : Int) := Int.natCast_nonneg _; have hi1 : (i : Int) < (ps.length : Int) := by omega
   have hiw : IntKind.i64.wrap ((i : Int) + 1) = (i : Int) + 1 := IntWalk.i64_in _ (by omega)
   have hi2 : i + 1 ≤ ps.length := hil; have hme : ps.length - (i + 1) < ps.length - i := by omega
   obtain ⟨adp, Ap, cp, hCe, p0, p1, hcp, hrp⟩ := at_T77 HD.out.g.hC (i : Int) hi0 hi1; subst hCe; rw [Int.toNat_natCast] at p0 p1; rw [rdT77_nat ps i hil] at p1; have HP1 := Lib.hid p1; have hdl := dots_le hil; have hdt : dots (ps.take (i + 1)) = dots (ps.take i) + ((ps[i]).f1.length + 1) := by rw [List.take_succ_eq_append_getElem hil, dots_snoc]
   have hrow := HF.out.row (List.getElem_mem hil); have HRD : Hid (∀ j, j ≤ (ps[i]).f1.length → ∀ k : Nat, itemOf sp (dots (ps.take i) + j) k = ⟨(i : Int), (j : Int), (k : Int)⟩) := Lib.hid (fun j hj k => by unfold itemOf; rw [HSP.out, rdSp_get hil hj]; rfl)
   generalize (ps[i]).f1 = row at *; obtain ⟨at0, hat0⟩ : ∃ a, a = dots (ps.take i) := ⟨_, rfl⟩; rw [← hat0] at HR HRD hdl hdt; have HDT := Lib.hid hdt; have HAT := Lib.hid hat0; have HR' : Hid (k178.R 178 wr w.heap.size tru (.slice A5 n5 c5) (zbl sp X (at0 + 0))) := HR; clear p0 p1 hrp hcp hat0 hdt
   go_wp2_with fail
   go_loopw [5, 7] (fun v5 v7 w' => ∃ (j : Nat) (A5 : Option Addr) (n5 c5 : Nat), v7 = .int .i64 (j : Int) ∧ v5 = .slice A5 n5 c5 ∧ j ≤ row.length + 1 ∧ Hid (k178.R 178 w' w.heap.size tru (.slice A5 n5 c5) (zbl sp X (at0 + j))) ∧ Hid (Below w.heap.size w w')) (fun _ v7 _ => row.length + 1 - (intOf v7).toNat)
   case atStart => exact ⟨0, _, _, _, rfl, rfl, Nat.zero_le _, HR', HB⟩
   case round =>
    clear HR HR' HB k2; obtain ⟨j, A5, n5, c5, rfl, rfl, hj, HR, HB⟩ := hrel; have k2 := zaa (zak HD.out.bk HB.out) 2; have k5 := zaa (zak HD.out.bk HB.out) 5; simp at k2 k5; have p1 := zan HB.out HP1.out; by_cases hjl : j ≤ row.length
    ·have hjb : decide ((j : Int) ≤ (row.length : Int)) = true := decide_eq_true (by omega)
     have hj0 : (0 : Int) ≤ (j : Int) := Int.natCast_nonneg _; have hjw : IntKind.i64.wrap ((j : Int) + 1) = (j : Int) + 1 := IntWalk.i64_in _ (by omega)
     have hj2 : j + 1 ≤ row.length + 1 := by omega
     have hmf : row.length + 1 - (j + 1) < row.length + 1 - j := by omega
     obtain ⟨ada, rfl, a0⟩ := at_kN (Kd.zav HD.out.at_ HB.out) hil; rw [atS_get ps 0 i hil, Nat.zero_add, ← HAT.out] at a0; have haw : IntKind.i64.wrap ((at0 : Int) + (j : Int)) = ((at0 + j : Nat) : Int) := by rw [IntWalk.i64_in _ (by omega)]; omega
     have hn0 : (0 : Int) ≤ ((at0 + j : Nat) : Int) := Int.natCast_nonneg _; have hn1 : ((at0 + j : Nat) : Int) < (N : Int) := by have := HND.out; omega
     have hnN : at0 + j < N := by omega
     obtain ⟨ads, rfl, s0⟩ := at_U (Kd.zav HS.out HB.out) hnN; have HLS := Lib.hid (listN_succ sp X (at0 + j)); have HE1 : Hid (at0 + (j + 1) = at0 + j + 1) := Lib.hid (by omega)
     have HIT := Lib.hid (HRD.out j hjl); have HXL := Lib.hid (HX.out.lt.fst (at0 + j)); have hln := listN_len sp X (at0 + j); generalize hgx : fst X (at0 + j) = x at *; clear hgx; generalize hgn : at0 + j = n at *; have HGN := Lib.hid hgn; clear hgn
     go_wp2_with fail
     clear s0 a0 p1 k2 k5; have HRx : Hid (k178.R 178 wr w.heap.size tru (.slice A5 n5 c5) (zbl sp X n ++ itK sp n x 0)) := Lib.hid (by
      have h : itK sp n x 0 = [] := rfl; rw [h, List.append_nil]; exact HR.out)
     go_loopw [5, 9] (fun v5 v9 w' => ∃ (k : Nat) (A5 : Option Addr) (n5 c5 : Nat), v9 = .int .i64 (k : Int) ∧ v5 = .slice A5 n5 c5 ∧ k ≤ l.length ∧ Hid (k178.R 178 w' w.heap.size tru (.slice A5 n5 c5) (zbl sp X n ++ itK sp n x k)) ∧ Hid (Below w.heap.size w w') ∧ Hid (x = 0 → k = 0)) (fun _ v9 _ => l.length - (intOf v9).toNat)
     case atStart => exact ⟨0, _, _, _, rfl, rfl, Nat.zero_le _, HRx, HB, Lib.hid (fun _ => rfl)⟩
     case round =>
      clear HR HRx HB; obtain ⟨k, A5, n5, c5, rfl, rfl, hk, HR, HB, HZ⟩ := hrel; have k0 := zaa (zak HD.out.bk HB.out) 0; simp at k0; by_cases hkl : k < l.length
      ·have hkb : decide ((k : Int) < (l.length : Int)) = true := decide_eq_true (by omega)
       by_cases hx0 : x = 0
       ·have hxb : (((x : Nat) : Int) != 0) = false := by rw [hx0]; rfl
        have hxd : decide (((x : Nat) : Int) = 0) = true := by rw [hx0]; rfl
        have hk0 : k = 0 := HZ.out hx0; subst hx0; subst hk0; have HRn : Hid (k178.R 178 wr w.heap.size tru (.slice A5 n5 c5) (zbl sp X (at0 + (j + 1)))) := Lib.hid (by rw [HE1.out, HLS.out, ← itK_none]; exact HR.out)
        go_wp2_with fail
        go_roundw
        case rel => first | exact ⟨j + 1, _, _, _, by rw [Int.natCast_add]; rfl, rfl, hj2, HRn, HB⟩ | ((repeat apply Exists.intro); exact ⟨⟨j + 1, _, _, _, by rw [Int.natCast_add]; rfl, rfl, hj2, HRn, HB⟩, rfl⟩)
        case measure => exact hmf
       ·have hxb : (((x : Nat) : Int) != 0) = true := by rw [bne_iff_ne]; omega
        have hxd : decide (((x : Nat) : Int) = 0) = false := decide_eq_false (by omega)
        have hk64 : k < 64 := by omega
        have hk0 : (0 : Int) ≤ (k : Int) := Int.natCast_nonneg _; have hkw : IntKind.i64.wrap ((k : Int) + 1) = (k : Int) + 1 := IntWalk.i64_in _ (by omega)
        have hk2 : k + 1 ≤ l.length := hkl; have hmg : l.length - (k + 1) < l.length - k := by omega
        have HBIT := Lib.hid (bit_any k hk64); have hand : bits .and .u64 (x : Int) ((2 ^ k : Nat) : Int) = ((x &&& 2 ^ k : Nat) : Int) := u64_and_nat _ _ (Nat.lt_of_lt_of_le HXL.out (pow64 HF.out.t64)) (pow_lt64 hk64); rw [and_bit] at hand; have HKS := Lib.hid (itK_succ sp n x k); have hkln := itK_len sp n x k; have HZ2 : Hid (x = 0 → k + 1 = 0) := Lib.hid (fun h => absurd h hx0)
        have hpos : 0 < 2 ^ k := Nat.two_pow_pos k; generalize 2 ^ k = pk at *; cases htb : x.testBit k with
        | true =>
         rw [if_pos htb] at hand; have HKS2 : Hid (itK sp n x (k + 1) = itK sp n x k ++ [itemOf sp n k]) := Lib.hid (by rw [HKS.out, if_pos htb])
         rw [HIT.out k] at HKS2; have hpb : ((pk : Int) != 0) = true := by rw [bne_iff_ne]; omega
         have hpd : decide ((pk : Int) = 0) = false := decide_eq_false (by omega)
         have hbo : ((zbl sp X n ++ itK sp n x k).length + 1) * 24 ≤ 140737488355328 := by rw [List.length_append]; omega
         clear htb HKS hln hkln hpos
         go_wp2_with ((go_at_call 106; refine (HBIT.out _).mono ?_; rintro e3 w3 ⟨rfl, rfl⟩; refine Hid.out ?_))
         refine Lib.hid ?_
         go_wp2_with ((with_reducible refine zay (b := .append) (xs := #[.tmp 65, .tmp 70]) rfl ?_); refine Hid.out ?_)
         refine Lib.hid ?_; have HL := C_lit1 (k := k178) (x := ⟨(i : Int), (j : Int), (k : Int)⟩) (k178_mk _ _) (zau w3 (.cells #[.int .i64 (i : Int), .int .i64 (j : Int), .int .i64 (k : Int)] 178)); have HBa := zac HB.out (.cells #[.int .i64 (i : Int), .int .i64 (j : Int), .int .i64 (k : Int)] 178)
         at_builtin
         refine Kd.zbj k178 (w0 := w) w.heap.size rfl (.tmp 65) (.tmp 70) 119 178 (.agg #[(.int .i64 0), (.int .i64 0), (.int .i64 0)]) 24 rfl Tryd.underlying119 info178 rfl (by decide) (by decide) _ (zbl sp X n ++ itK sp n x k) [⟨(i : Int), (j : Int), (k : Int)⟩] (some ⟨_, 0, none⟩) 1 1 tru (fun _ => False) rfl rfl (Kd.zbk HR.out _) HL (fun _ _ h => h) (fun _ h => h.elim) (fun _ _ => trivial) HBa HBa.size hbo ?_
         intro v7 w7 ho7 hb7 hg7 hat7; obtain ⟨A7, c7, hv7, -, -⟩ := Kd.zbb ho7; generalize hn7 : (zbl sp X n ++ itK sp n x k ++ [(⟨(i : Int), (j : Int), (k : Int)⟩ : S178)]).length = n7 at hv7; subst hv7; have HR7 : Hid (k178.R 178 w7 w.heap.size tru (.slice A7 n7 c7) (zbl sp X n ++ itK sp n x (k + 1))) := Lib.hid (by rw [HKS2.out, ← List.append_assoc]; exact ho7)
         have HB7 := Lib.hid hb7; clear hn7 ho7 hb7 hg7 hat7 HL HBa HB HR hbo
         go_wp2_with fail
         go_roundw
         case rel => first | exact ⟨k + 1, _, _, _, by rw [Int.natCast_add]; rfl, rfl, hk2, HR7, HB7, HZ2⟩ | ((repeat apply Exists.intro); exact ⟨⟨k + 1, _, _, _, by rw [Int.natCast_add]; rfl, rfl, hk2, HR7, HB7, HZ2⟩, rfl⟩)
         case measure => exact hmg
        | false =>
         rw [if_neg (by rw [htb]; decide)] at hand
         have HR7 : Hid (k178.R 178 wr w.heap.size tru (.slice A5 n5 c5) (zbl sp X n ++ itK sp n x (k + 1))) := Lib.hid (by rw [HKS.out, if_neg (by rw [htb]; decide)]; exact HR.out)
         clear htb HKS hln hkln hpos
         go_wp2_with ((go_at_call 106; refine (HBIT.out _).mono ?_; rintro e3 w3 ⟨rfl, rfl⟩; refine Hid.out ?_))
         refine Lib.hid ?_
         go_wp2_with fail
         go_roundw
         case rel => first | exact ⟨k + 1, _, _, _, by rw [Int.natCast_add]; rfl, rfl, hk2, HR7, HB, HZ2⟩ | ((repeat apply Exists.intro); exact ⟨⟨k + 1, _, _, _, by rw [Int.natCast_add]; rfl, rfl, hk2, HR7, HB, HZ2⟩, rfl⟩)
         case measure => exact hmg
      ·have hkb : decide ((k : Int) < (l.length : Int)) = false := decide_eq_false (by omega)
       have hke : k = l.length := by omega
       have HRn : Hid (k178.R 178 wr w.heap.size tru (.slice A5 n5 c5) (zbl sp X (at0 + (j + 1)))) := Lib.hid (by rw [HE1.out, HLS.out, ← itK_all sp HF.out.t64 HXL.out, ← hke]; exact HR.out)
       clear hke
       go_wp2_with fail
       go_roundw
       case rel => first | exact ⟨j + 1, _, _, _, by rw [Int.natCast_add]; rfl, rfl, hj2, HRn, HB⟩ | ((repeat apply Exists.intro); exact ⟨⟨j + 1, _, _, _, by rw [Int.natCast_add]; rfl, rfl, hj2, HRn, HB⟩, rfl⟩)
       case measure => exact hmf
    ·have hjb : decide ((j : Int) ≤ (row.length : Int)) = false := decide_eq_false (by omega)
     have hje : j = row.length + 1 := by omega
     have HRn : Hid (k178.R 178 wr w.heap.size tru (.slice A5 n5 c5) (zbl sp X (dots (ps.take (i + 1))))) := Lib.hid (by rw [HDT.out, ← hje]; exact HR.out)
     clear hje
     go_wp2_with fail
     go_roundw
     case rel => first | exact ⟨i + 1, _, _, _, by rw [Int.natCast_add]; rfl, rfl, hi2, HRn, HB⟩ | ((repeat apply Exists.intro); exact ⟨⟨i + 1, _, _, _, by rw [Int.natCast_add]; rfl, rfl, hi2, HRn, HB⟩, rfl⟩)
     case measure => exact hme
  ·have hib : decide ((i : Int) < (ps.length : Int)) = false := decide_eq_false (by omega)
   have hie : i = ps.length := by omega
   subst hie; rw [List.take_length, ← HND.out] at HR
   go_wp2_with fail
   go_ret; exact ⟨_, rfl, HR.out, HB.out⟩
end Doc
end Go.Proofs.YtcijanmckhlpiaaDoor
