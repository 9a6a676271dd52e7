-- Texts of this seat, cut to what is used and merged (by shake.py).
import Derived.Test.YtcijanmckhlpiaaDoorSq1
import Derived.Test.YtcijanmckhlpiaaDoorSq3
import Derived.Test.YtcijanmckhlpiaaDoorSq6
import Derived.Laws.ByValue
import Derived.Lib.TrailingZeros
import Derived.Laws.Bits64b
import Derived.Test.YtcijanmckhlpiaaDoorRows
import Derived.WalkKit
import Derived.ProofKit
import Derived.OpenShut
import Derived.ShutString
import Derived.ChangeOld
import Derived.Below
import Derived.SizedLaws
import Derived.LaidLaws
import Derived.LaidHandle
import Derived.Deep.DeepHandedRow
import Derived.Lib.LaidTab
import Derived.LaidSub
import Derived.MakeChecks
import Derived.Deep.Slices
import Derived.ChangeArms
import Derived.DataReads
import Derived.Lib.SmallJoins
set_option linter.unusedVariables false
set_option linter.unusedSimpArgs false
namespace Go.Proofs.YtcijanmckhlpiaaDoor
open Go.RowKit Go.Proofs.YtcijanmckhlpiaaDoorW.PrintWords Go.Proofs.YtcijanmckhlpiaaDoorW.PrintLast Go.Proofs.YtcijanmckhlpiaaDoorW.PrintMore Go.Proofs.YtcijanmckhlpiaaDoor.PTableBuilds
namespace Bld
theorem uvals_zero (n : Nat) : uvals (List.replicate n 0) = Array.replicate n (.int .u64 0) := by
 unfold uvals; rw [List.map_replicate, ← List.toArray_replicate]; rfl
structure FitM (N : Nat) (l : List S166) : Prop where
 len : l.length ≤ 1048576
 spot : ∀ m ∈ l, 0 ≤ m.f0 ∧ m.f0 < N
 looks : ∀ m ∈ l, 0 ≤ m.f1 ∧ m.f1 < 18446744073709551616
theorem rd166_mem {l : List S166} {i : Nat} (hi : i < l.length) : rd_T166 l (i : Int) ∈ l := by
 have e : rd_T166 l (i : Int) = l[i] := by unfold rd_T166; rw [Int.toNat_natCast, List.getD_eq_getElem?_getD, List.getElem?_eq_getElem hi]; rfl
 rw [e]; exact List.getElem_mem _
theorem take_snoc166 {l : List S166} {i : Nat} (hi : i < l.length) : l.take (i + 1) = l.take i ++ [rd_T166 l (i : Int)] := by
 have e : rd_T166 l (i : Int) = l[i] := by unfold rd_T166; rw [Int.toNat_natCast, List.getD_eq_getElem?_getD, List.getElem?_eq_getElem hi]; rfl
 rw [e, List.take_succ_eq_append_getElem hi]
theorem marksS_snoc (l : List S166) (m : S166) (st : List Nat × List Nat) : marksS (l ++ [m]) st = putS (marksS l st).1 (marksS l st).2 m.f0.toNat m.f1.toNat := by
 unfold marksS; rw [List.foldl_append]; rfl
theorem Pot.marks {N : Nat} : ∀ (l : List S166) (st : List Nat × List Nat), Pot N st → (∀ m ∈ l, 0 ≤ m.f0 ∧ m.f0 < N) → (∀ m ∈ l, 0 ≤ m.f1 ∧ m.f1 < 18446744073709551616) → Pot N (marksS l st)
 | [], st, h, _, _ => h
 | m :: l, st, h, h1, h2 => Pot.marks l _ (h.put (by have := h1 m (by simp); omega) (by have := h2 m (by simp); unfold zbi; omega)) (fun x hx => h1 x (by simp [hx])) (fun x hx => h2 x (by simp [hx]))
theorem rd230 {sp : List S230} {n : Nat} (hn : n < sp.length) : rd_T230 sp (n : Int) = rdSp sp n := by
 unfold rd_T230 rdSp; rw [Int.toNat_natCast, List.getD_eq_getElem?_getD, List.getD_eq_getElem?_getD, List.getElem?_eq_getElem hn]; rfl
theorem at_Of {W : World} {A : Option Addr} {n : Nat} {xs : List (List Nat)} (h : (Kd.slice 3 kN).C W A n xs) {i : Nat} (hi : i < n) : ∃ ad A0 c0, A = some ad ∧ W.cell? (ad.add i) = some (.slice A0 (rdOfs xs i).length c0) ∧ (rdOfs xs i).length ≤ c0 ∧ kN.C W A0 (rdOfs xs i).length (rdOfs xs i) := by
 obtain ⟨ad, c, e, _, hK, hc⟩ := Kd.C_get h [] (i : Int) (Int.natCast_nonneg _) (by omega)
 rw [Int.toNat_natCast] at hK hc; obtain ⟨A0, c0, rfl, hl, hC⟩ := hK; refine ⟨ad, A0, c0, e, ?_, hl, hC⟩; have := hc 0 _ rfl
 rwa [show i * (Kd.slice 3 kN).sz + 0 = i by simp [Kd.slice]] at this
theorem at_N {W : World} {A : Option Addr} {n : Nat} {xs : List Nat} (h : kN.C W A n xs) {i : Nat} (hi : i < n) : ∃ ad, A = some ad ∧ W.cell? (ad.add i) = some (.int .i64 ((fst xs i : Nat) : Int)) := by
 obtain ⟨ad, c, e, _, hK, hc⟩ := Kd.C_get h 0 (i : Int) (Int.natCast_nonneg _) (by omega)
 rw [Int.toNat_natCast] at hK hc; refine ⟨ad, e, ?_⟩; have hK' : c = [Value.int .i64 ((xs.getD i 0 : Nat) : Int)] := hK; subst hK'; have := hc 0 _ rfl
 rwa [show i * kN.sz + 0 = i by simp [kN, Kd.scalar]] at this
theorem fst_mem {xs : List Nat} {i : Nat} (hi : i < xs.length) : fst xs i ∈ xs := by
 unfold fst; rw [List.getD_eq_getElem?_getD, List.getElem?_eq_getElem hi]; exact List.getElem_mem _
theorem take_snocN {l : List Nat} {i : Nat} (hi : i < l.length) : l.take (i + 1) = l.take i ++ [fst l i] := by
 unfold fst; rw [List.getD_eq_getElem?_getD, List.getElem?_eq_getElem hi, List.take_succ_eq_append_getElem hi]; rfl
theorem putsS_snoc (l : List Nat) (n x : Nat) (st : List Nat × List Nat) : putsS (l ++ [n]) x st = putS (putsS l x st).1 (putsS l x st).2 n x := by
 unfold putsS; rw [List.foldl_append]; rfl
theorem rdOf_last (l : List Nat) (n : Nat) : rdOf 0 (l ++ [n]) (l.length : Int) = n := by
 unfold rdOf; rw [Int.toNat_natCast, List.getD_eq_getElem?_getD, List.getElem?_append_right (Nat.le_refl _), Nat.sub_self]; rfl
theorem Cl.row {w0 W : World} {bs bt sr N : Nat} {s : List Nat} {vt : Value} {todo : List Nat} (h : Cl w0 W bs bt sr N s vt todo) (hN : N ≤ 1048576) : kU.R 128 W w0.heap.size tru (.slice (some ⟨sr, 0, none⟩) N N) s := by
 have hl := h.len; refine Kd.R_of_own (enc := fun n : Nat => Value.int .u64 (n : Int)) ?_ (fun _ _ => trivial)
 subst hl; refine ⟨by rw [encs_length, Nat.mul_one], .inr ⟨sr, s.length, uvals s, rfl, h.ge.2.2, h.hr, Nat.le_refl _, by unfold maxLen; omega, by simp [uvals], ?_⟩⟩
 unfold uvals encs; rw [List.take_of_length_le (by simp)]
set_option maxRecDepth 100000 in
set_option maxHeartbeats 4000000 in
theorem closed_any (gb : Nat) (A : Option Addr) (T c : Nat) (B : Option Addr) (M d : Nat) (slC va : Value) (As : Option Addr) (cs : Nat) (sp : List S230) (Ao : Option Addr) (co : Nat) (of_ : List (List Nat)) (w : World) (hb : BookR w gb A T c B M d slC va As cs sp Ao co of_) (hf : FitB T M sp of_) (hT : T ≤ 64) (hM : M ≤ 128)
  (Al : Option Addr) (cl : Nat) (l : List S166) (hl : k166.C w Al l.length l) (hm : FitM sp.length l) (k : Nat) (r : List Nat) (hk : closeN T sp of_ k (marksS l (List.replicate sp.length 0, [])) = some r) :
  Calls Tryd.prog 65 #[.pointer (some ⟨gb, 0, none⟩), .slice Al l.length cl] w (RetR kU 128 r w) := by
 have HBK := Lib.hid hb; have HF := Lib.hid hf; have HL := Lib.hid hl; have HM := Lib.hid hm; have HK := Lib.hid hk; have hN := hf.n20; have hln := hm.len; clear hf hl hm hk hb; have g1 := zaa HBK.out.bk 3; simp at g1; have hmk : ∀ W : World, (Instr.makeSlice 169 (.int .i64 (sp.length : Int)) (.int .i64 (sp.length : Int))).run Tryd.prog W = .ok (.slice (some ⟨W.heap.size, 0, none⟩) sp.length sp.length) (W.alloc (.cells (Array.replicate sp.length (Value.int .u64 0)) 128)) := fun W => by
  rw [← List.toArray_replicate, ← made_one]; exact run_make_row' 169 128 (.int .u64 0) 8 Tryd.underlying169 info128 rfl .i64 .i64 sp.length (by omega) (by omega) W
 have hmf : ∀ (fn : Fn) (first cap : Array Value) (w : World), (Instr.makeFunc fn first cap).run Tryd.prog w = .ok (.func fn first cap) w := fun _ _ _ _ => rfl
 have HC0 : Hid (Cl w (((w.alloc (.cells (Array.replicate sp.length (Value.int .u64 0)) 128)).alloc (.cells #[.slice (some ⟨w.heap.size, 0, none⟩) sp.length sp.length] 169)).alloc (.cells #[.slice none 0 0] 95)) (w.heap.size + 1) (w.heap.size + 1 + 1) w.heap.size sp.length (List.replicate sp.length 0) (.slice none 0 0) []) := Lib.hid (by
  have h1 := zau (w.alloc (.cells (Array.replicate sp.length (Value.int .u64 0)) 128)) (.cells #[.slice (some ⟨w.heap.size, 0, none⟩) sp.length sp.length] 169); have h2 := zau ((w.alloc (.cells (Array.replicate sp.length (Value.int .u64 0)) 128)).alloc (.cells #[.slice (some ⟨w.heap.size, 0, none⟩) sp.length sp.length] 169)) (.cells #[.slice none 0 0] 95); rw [szA] at h1; rw [szA, szA] at h2; exact ⟨zac (zac (zac (Below.refl _ _) _) _) _, zad h1 _, h2, by rw [uvals_zero]; exact zad (zad (zau w _) _) _, Kd.R_nil _ _ _ _ _, by omega, List.length_replicate, fun x hx => by rw [(List.mem_replicate.1 hx).2]; decide⟩)
 go_enter Tryd.func65, Tryd.ntmps65
 go_wp2_with ((with_reducible refine gate_ (.makeFunc (.func 98) #[] #[.tmp 5, .tmp 6]) rfl ?_); refine Hid.out ?_)
 refine Lib.hid ?_; clear hmk g1; have HBW := Lib.hid HC0.out.below; have hs0 : w.heap.size + 1 + 1 < (((w.alloc (.cells (Array.replicate sp.length (Value.int .u64 0)) 128)).alloc (.cells #[.slice (some ⟨w.heap.size, 0, none⟩) sp.length sp.length] 169)).alloc (.cells #[.slice none 0 0] 95)).heap.size := zba HC0.out.ht; generalize ((w.alloc (.cells (Array.replicate sp.length (Value.int .u64 0)) 128)).alloc (.cells #[.slice (some ⟨w.heap.size, 0, none⟩) sp.length sp.length] 169)).alloc (.cells #[.slice none 0 0] 95) = W0 at *; have HP0 := Lib.hid (Pot.init sp.length)
 go_wp2_with fail
 clear hmf
 go_loopw [24] (fun v w' => ∃ (i : Nat) (vt : Value), v = .int .i64 (i : Int) ∧ i ≤ l.length ∧ Hid (Cl w w' (w.heap.size + 1) (w.heap.size + 1 + 1) w.heap.size sp.length (marksS (l.take i) (List.replicate sp.length 0, [])).1 vt (marksS (l.take i) (List.replicate sp.length 0, [])).2)) (fun v _ => l.length - (intOf v).toNat)
 case atStart => exact ⟨0, _, rfl, Nat.zero_le _, HC0⟩
 case round =>
  clear HC0; obtain ⟨i, vt, rfl, hi, HC⟩ := hrel; have HPI : Hid (Pot sp.length (marksS (l.take i) (List.replicate sp.length 0, []))) := Lib.hid (Pot.marks _ _ HP0.out (fun m hm => HM.out.spot m (List.mem_of_mem_take hm)) (fun m hm => HM.out.looks m (List.mem_of_mem_take hm)))
  by_cases hil : i < l.length
  ·obtain ⟨adm, rfl, m0, m1⟩ := at_T166 (Kd.zav HL.out HC.out.below) (i : Int) (by omega) (by omega)
   rw [Int.toNat_natCast] at m0 m1; have HTS := Lib.hid (take_snoc166 hil); have hsp := HM.out.spot _ (rd166_mem hil); have hlo := HM.out.looks _ (rd166_mem hil); generalize rd_T166 l (i : Int) = mk at *; obtain ⟨msp, mlo⟩ := mk; simp only at m0 m1 hsp hlo; obtain ⟨ms, rfl⟩ := Int.eq_ofNat_of_zero_le hsp.1; obtain ⟨ml, rfl⟩ := Int.eq_ofNat_of_zero_le hlo.1; have hib : decide ((i : Int) < (l.length : Int)) = true := decide_eq_true (by omega)
   have hi0 : (0 : Int) ≤ (i : Int) := by omega
   have hi1 : (i : Int) < (l.length : Int) := by omega
   have hiw : IntKind.i64.wrap ((i : Int) + 1) = (i : Int) + 1 := IntWalk.i64_in _ (by omega)
   have hms : ms < sp.length := by omega
   have hml : ml < zbi := by unfold zbi; omega
   have HML := Lib.hid hml; have htd : (marksS (l.take i) (List.replicate sp.length 0, [])).2.length ≤ 134217728 := by have := HPI.out.todo; omega
   have HC1 := Lib.hid (HC.out.alloc (.cells #[.int .i64 (ms : Int), .int .u64 (ml : Int)] 166)); clear hml hsp hlo
   go_wp2_with (go_at_call 98; refine (put_any w _ _ _ _ _ _ _ _ ms ml HC1.out hms HML.out hN htd).mono ?_; rintro e1 w1 ⟨rfl, vt1, hc1⟩; refine Hid.out ?_)
   refine Lib.hid ?_; have HC2 : Hid (Cl w w1 (w.heap.size + 1) (w.heap.size + 1 + 1) w.heap.size sp.length (marksS (l.take (i + 1)) (List.replicate sp.length 0, [])).1 vt1 (marksS (l.take (i + 1)) (List.replicate sp.length 0, [])).2) := Lib.hid (by
    rw [HTS.out, marksS_snoc]; exact hc1)
   have hi2 : i + 1 ≤ l.length := hil; have hme : l.length - (i + 1) < l.length - i := by omega
   clear hc1 HC HC1 HPI
   go_wp2_with fail
   go_roundw
   case rel => first | exact ⟨i + 1, _, by rw [Int.natCast_add]; rfl, hi2, HC2⟩ | ((repeat apply Exists.intro); exact ⟨⟨i + 1, _, by rw [Int.natCast_add]; rfl, hi2, HC2⟩, rfl⟩)
   case measure => exact hme
  ·have hib : decide ((i : Int) < (l.length : Int)) = false := decide_eq_false (by omega)
   have hie : i = l.length := by omega
   subst hie; rw [List.take_length] at HC HPI; clear hil
   go_wp2_with fail
   go_loopg [] k (fun kq w' => ∃ (vt : Value) (st : List Nat × List Nat), Hid (kq ≤ k) ∧ Hid (closeN T sp of_ kq st = some r) ∧ Hid (Pot sp.length st) ∧ Hid (Cl w w' (w.heap.size + 1) (w.heap.size + 1 + 1) w.heap.size sp.length st.1 vt st.2))
   case atStart => exact ⟨_, _, Lib.hid (Nat.le_refl _), HK, HPI, HC⟩
   case round =>
    clear HK HPI HC; obtain ⟨vt, st, HKQ, HK, HPI, HC⟩ := hrel; obtain ⟨s, todo⟩ := st; simp only at HPI HC; have t0 := zaa HC.out.ht 0; rcases List.eq_nil_or_concat todo with rfl | ⟨td, n, rfl⟩
    ·obtain ⟨At, ct, rfl, hct, -⟩ := Kd.zbb HC.out.td; simp at t0; have hz : (((0 : Nat) : Int) > 0) = False := by simp
     have b0 := zaa HC.out.hs 0; simp at b0; have hr : s = r := by
      have h := HK.out; cases gk with
      | zero => simp [closeN] at h
      | succ g => simpa [closeN] using h
     go_wp2_with fail
     go_ret; exact ⟨_, rfl, hr ▸ HC.out.row hN, HC.out.below⟩
    ·rw [List.concat_eq_append] at HK HPI HC; obtain ⟨gt, ct, rfl, -, -, -⟩ := Kd.R_form HC.out.td (by simp)
     rw [List.length_append, List.length_singleton] at HC t0; have e0 := (Kd.R_celln 0 HC.out.td (td.length : Int) (Int.natCast_nonneg _) (by omega)).1
     rw [Int.toNat_natCast, rdOf_last] at e0; have hR : kN.R 3 wr w.heap.size tru (.slice (some ⟨gt, 0, none⟩) td.length ct) td := by
      have h := Kd.R_take (m := td.length) HC.out.td (by simp)
      rw [List.take_left'] at h
      ·exact h
      ·rfl
     have HC1 := Lib.hid (HC.out.cut hR); have hnl : n < sp.length := HPI.out.td n (by simp)
     have htl := HPI.out.todo; simp only [List.length_append, List.length_singleton] at htl; have t0f := zae HC.out.ht 0; simp at t0; have hw1 : IntKind.i64.wrap ((td.length : Int) + 1 - 1) = (td.length : Int) := by rw [IntWalk.i64_in _ (by omega)]; omega
     have hd0 : (0 : Int) ≤ (td.length : Int) := Int.natCast_nonneg _; have hd1 : (td.length : Int) < (td.length : Int) + 1 := by omega
     have hd2 : decide ((td.length : Int) + 1 > 0) = true := decide_eq_true (by omega)
     have hd3 : decide ((0 : Int) < (td.length : Int) + 1) = true := decide_eq_true (by omega)
     have hd4 : (td.length : Int) ≤ (ct : Int) := by
      have := (Kd.zbh HC.out.td).2.1; omega
     have HKE : Hid (∃ g, gk = g + 1 ∧ (if (rdSp sp n).f2 < (T : Int) then closeN T sp of_ g (s, td) else closeN T sp of_ g (putsS (rdOfs of_ ((rdSp sp n).f2 - T).toNat) (looksS sp s n) (s, td))) = some r) := Lib.hid (by
      have h := HK.out; cases gk with
      | zero => simp [closeN] at h
      | succ g =>
       refine ⟨g, rfl, ?_⟩
       simpa [closeN, List.getLast?_append] using h)
     have HPT : Hid (Pot sp.length (s, td)) := Lib.hid (by
      have h := HPI.out.pop
      rwa [List.dropLast_concat] at h)
     clear hR HC HK HPI
     go_wp2_with ((with_reducible refine gateN_ 51 rfl ?_); refine Hid.out ?_)
     refine Lib.hid ?_; clear t0 t0f e0 hw1 hd0 hd1 hd2 hd3 hd4; generalize wr.setCell ⟨w.heap.size + 1 + 1, 0, none⟩ (.slice (some ⟨gt, 0, none⟩) td.length ct) = W1 at *; have HB1 := Lib.hid (HBK.out.below HC1.out.below); have g1 := zaa HB1.out.bk 3; have g0 := zaa HB1.out.bk 0; simp at g0 g1; have hn0 : (0 : Int) ≤ (n : Int) := Int.natCast_nonneg _; have hn1 : (n : Int) < (sp.length : Int) := by omega
     obtain ⟨ads, rfl, x0c, x1c, x2c, x3c, x4c⟩ := at_T230 HB1.out.hsp (n : Int) (by omega) (by omega)
     rw [Int.toNat_natCast, rd230 hnl] at x0c x1c x2c x3c x4c; have hsy := HF.out.sym _ (rdSp_mem hnl); have hre := HF.out.rest _ (rdSp_mem hnl); have HLK := Lib.hid (HF.out.looks_lt HPT.out.lt hnl); have HLKE : Hid (looksS sp s n = if (rdSp sp n).f4 = true then (rdSp sp n).f3.toNat ||| fst s n else (rdSp sp n).f3.toNat) := Lib.hid rfl
     generalize rdSp sp n = x at *; obtain ⟨x0, x1, x2, x3i, x4⟩ := x; simp only at x0c x1c x2c x3c x4c hsy hre; obtain ⟨x3, rfl⟩ := Int.eq_ofNat_of_zero_le hre.1; have HC2 := Lib.hid (HC1.out.alloc (.cells #[.int .i64 x0, .int .i64 x1, .int .i64 x2, .int .u64 (x3 : Int), .bool x4] 230)); have HX2 := Lib.hid (zau W1 (.cells #[.int .i64 x0, .int .i64 x1, .int .i64 x2, .int .u64 (x3 : Int), .bool x4] 230))
     go_wp2_with fail
     have HB2 := Lib.hid (HB1.out.below (zac (Below.refl _ _) (.cells #[.int .i64 x0, .int .i64 x1, .int .i64 x2, .int .u64 (x3 : Int), .bool x4] 230))); clear g0 g1 x0c x1c x2c x3c x4c HC1 HB1 hn0; generalize W1.alloc (.cells #[.int .i64 x0, .int .i64 x1, .int .i64 x2, .int .u64 (x3 : Int), .bool x4] 230) = W2 at *; have y2 := zaa HX2.out 2; have y3 := zaa HX2.out 3; have y4 := zaa HX2.out 4; have g0 := zaa HB2.out.bk 0; simp at y2 y3 y4 g0; obtain ⟨g, hg, hcl⟩ := HKE.out; have HCL := Lib.hid hcl; have HGK := Lib.hid hg; clear hcl hg; by_cases hsT : x2 < (T : Int)
     ·have hb1 : decide (x2 < (T : Int)) = true := decide_eq_true hsT; have HK2 : Hid (closeN T sp of_ g (s, td) = some r) := Lib.hid (by
       have h := HCL.out
       rwa [if_pos hsT] at h)
      have HPT2 := HPT; have HC9 := HC2; have hgk : g < gk := by have := HGK.out; omega
      go_quiet (fail)
      go_wp2_with fail
      replace HC9 := Lib.hid (HC2.out.drewN nq)
      go_roundg g
      case measure => exact hgk
      case rel => first | exact ⟨_, _, Lib.hid (by have := HKQ.out; omega), HK2, HPT2, HC9⟩ | ((repeat apply Exists.intro); exact ⟨⟨_, _, Lib.hid (by have := HKQ.out; omega), HK2, HPT2, HC9⟩, rfl⟩)
     ·have hb1 : decide (x2 < (T : Int)) = false := decide_eq_false hsT; obtain ⟨j, hj⟩ : ∃ j : Nat, x2 - (T : Int) = (j : Int) := ⟨(x2 - T).toNat, by omega⟩
      have hjM : j < M := by omega
      have hjw : IntKind.i64.wrap (x2 - (T : Int)) = (j : Int) := by rw [IntWalk.i64_in _ (by omega)]; exact hj
      have HCL2 : Hid (closeN T sp of_ g (putsS (rdOfs of_ j) (looksS sp s n) (s, td)) = some r) := Lib.hid (by
       have h := HCL.out; rw [if_neg hsT] at h
       rwa [show ((⟨x0, x1, x2, (x3 : Int), x4⟩ : S230).f2 - (T : Int)).toNat = j by show (x2 - (T : Int)).toNat = j; omega] at h)
      have hgk : g < gk := by have := HGK.out; omega
      clear hj hsy HCL HKE; have s0 := zaa HC2.out.hs 0; have sn := zaa HC2.out.hr n; rw [uvals_get (by rw [HC2.out.len]; exact hnl)] at sn
      simp at s0; have hn0 : (0 : Int) ≤ (n : Int) := Int.natCast_nonneg _; have hMl := HF.out.mlen; have hj0 : (0 : Int) ≤ (j : Int) := Int.natCast_nonneg _; have hj1 : (j : Int) < (of_.length : Int) := by omega
      have g5 := zaa HB2.out.bk 5; simp at g5; obtain ⟨ado, Am, cm, rfl, o0, hcm, hmC⟩ := at_Of HBK.out.of_ (i := j) (by omega)
      replace o0 := zan HC2.out.below o0; have HMC := Lib.hid hmC; have hmn := (HF.out.starts _ (rdOfs_mem (show j < of_.length by omega)))
      have hml := hmn.1; have HMN := Lib.hid hmn.2; clear hmn hmC hMl; generalize rdOfs of_ j = lm at *; have hfl := fst_lt HC2.out.lt n; generalize fst s n = fs at *; obtain ⟨lx, hlx⟩ : ∃ lx, lx = looksS sp s n := ⟨_, rfl⟩; rw [← hlx] at HLK HCL2 HLKE; have hre2 : x3 < zbi := by unfold zbi; omega
      clear hre; cases x4
      case' false =>
       have hx3 : lx = x3 := by
        have h := HLKE.out
        simpa using h
       subst hx3
      case' true =>
       have hor : bits .or .u64 (x3 : Int) (fs : Int) = (lx : Int) := by
        have h := HLKE.out; rw [if_pos rfl, Int.toNat_natCast] at h; rw [u64_or_nat _ _ hre2 hfl, h]
      all_goals
       clear HLKE hfl hre2 hlx
       go_quiet (fail)
       go_wp2_with fail
       go_quiet (fail)
       go_wp2_with fail
       clear s0 sn o0 g5 g0 y2 y3 y4 hjw
       go_loopw [91] (fun v w' => ∃ (q : Nat) (vt : Value), v = .int .i64 (q : Int) ∧ q ≤ lm.length ∧ Hid (Cl w w' (w.heap.size + 1) (w.heap.size + 1 + 1) w.heap.size sp.length (putsS (lm.take q) lx (s, td)).1 vt (putsS (lm.take q) lx (s, td)).2)) (fun v _ => lm.length - (intOf v).toNat)
       case atStart => exact ⟨0, _, rfl, Nat.zero_le _, Lib.hid (by first | exact HC2.out | exact HC2.out.drewN _ | exact (HC2.out.drewN _).drewN _)⟩
       case round =>
        clear HC2 HB2 HX2; obtain ⟨q, vt, rfl, hq, HC⟩ := hrel; have HPQ : Hid (Pot sp.length (putsS (lm.take q) lx (s, td))) := Lib.hid (Pot.puts HLK.out _ _ HPT.out (fun m hm => HMN.out m (List.mem_of_mem_take hm)))
        by_cases hql : q < lm.length
        ·obtain ⟨adm, rfl, m0⟩ := at_N (Kd.zav HMC.out HC.out.below) (i := q) hql; have HTS := Lib.hid (take_snocN hql); have hms := HMN.out _ (fst_mem hql); generalize fst lm q = ms at *; have hib : decide ((q : Int) < (lm.length : Int)) = true := decide_eq_true (by omega)
         have hi0 : (0 : Int) ≤ (q : Int) := by omega
         have hi1 : (q : Int) < (lm.length : Int) := by omega
         have hiw : IntKind.i64.wrap ((q : Int) + 1) = (q : Int) + 1 := IntWalk.i64_in _ (by omega)
         have htd : (putsS (lm.take q) lx (s, td)).2.length ≤ 134217728 := by have := HPQ.out.todo; omega
         go_wp2_with (go_at_call 98; refine (put_any w _ _ _ _ _ _ _ _ ms lx HC.out hms HLK.out hN htd).mono ?_; rintro e1 w1 ⟨rfl, vt1, hc1⟩; refine Hid.out ?_)
         refine Lib.hid ?_; have HC4 : Hid (Cl w w1 (w.heap.size + 1) (w.heap.size + 1 + 1) w.heap.size sp.length (putsS (lm.take (q + 1)) lx (s, td)).1 vt1 (putsS (lm.take (q + 1)) lx (s, td)).2) := Lib.hid (by
          rw [HTS.out, putsS_snoc]; exact hc1)
         have hq2 : q + 1 ≤ lm.length := hql; have hme : lm.length - (q + 1) < lm.length - q := by omega
         clear hc1 HC HPQ m0
         go_wp2_with fail
         go_roundw
         case rel => first | exact ⟨q + 1, _, by rw [Int.natCast_add]; rfl, hq2, HC4⟩ | ((repeat apply Exists.intro); exact ⟨⟨q + 1, _, by rw [Int.natCast_add]; rfl, hq2, HC4⟩, rfl⟩)
         case measure => exact hme
        ·have hib : decide ((q : Int) < (lm.length : Int)) = false := decide_eq_false (by omega)
         have hqe : q = lm.length := by omega
         subst hqe; rw [List.take_length] at HC HPQ
         go_wp2_with fail
         go_roundg g
         case measure => exact hgk
         case rel => first | exact ⟨_, _, Lib.hid (by have := HKQ.out; omega), HCL2, HPQ, HC⟩ | ((repeat apply Exists.intro); exact ⟨⟨_, _, Lib.hid (by have := HKQ.out; omega), HCL2, HPQ, HC⟩, rfl⟩)
def marksOf (sp : List S230) (s : List Nat) (y n : Nat) : List S166 := (List.range n).filterMap fun i => if fst s i ≠ 0 ∧ (rdSp sp i).f2 = (y : Int) then some ⟨((i + 1 : Nat) : Int), ((fst s i : Nat) : Int)⟩ else none
def movedN (K : Nat) (sp : List S230) (s : List Nat) (n : Nat) : List (List S166) := (List.range K).map fun y => marksOf sp s y n
theorem movedN_len (K : Nat) (sp : List S230) (s : List Nat) (n : Nat) : (movedN K sp s n).length = K := by simp [movedN]
theorem movedN_get {K : Nat} {sp : List S230} {s : List Nat} {n y : Nat} (hy : y < K) : (movedN K sp s n)[y]? = some (marksOf sp s y n) := by
 unfold movedN; rw [List.getElem?_map, List.getElem?_range hy]; rfl
theorem movedN_zero (K : Nat) (sp : List S230) (s : List Nat) : movedN K sp s 0 = List.replicate K [] := by
 unfold movedN marksOf; simp only [List.range_zero, List.filterMap_nil, List.map_const', List.length_range]
theorem marksOf_succ (sp : List S230) (s : List Nat) (y n : Nat) : marksOf sp s y (n + 1) = marksOf sp s y n ++ (if fst s n ≠ 0 ∧ (rdSp sp n).f2 = (y : Int) then [⟨((n + 1 : Nat) : Int), ((fst s n : Nat) : Int)⟩] else []) := by
 unfold marksOf; rw [List.range_succ, List.filterMap_append]
 congr 1
 by_cases h : fst s n ≠ 0 ∧ (rdSp sp n).f2 = (y : Int)
 ·rw [if_pos h, List.filterMap_cons, if_pos h]; rfl
 ·rw [if_neg h, List.filterMap_cons, if_neg h]; rfl
theorem marksOf_len (sp : List S230) (s : List Nat) (y n : Nat) : (marksOf sp s y n).length ≤ n := by
 have := List.length_filterMap_le (fun i => if fst s i ≠ 0 ∧ (rdSp sp i).f2 = (y : Int) then some (⟨((i + 1 : Nat) : Int), ((fst s i : Nat) : Int)⟩ : S166) else none) (List.range n)
 rw [List.length_range] at this; exact this
theorem movedN_skip {K : Nat} {sp : List S230} {s : List Nat} {n : Nat} (h : fst s n = 0 ∨ (rdSp sp n).f2 < 0) : movedN K sp s (n + 1) = movedN K sp s n := by
 unfold movedN; apply List.map_congr_left; intro y _; rw [marksOf_succ, if_neg (by rintro ⟨h1, h2⟩; rcases h with h | h; exact h1 h; omega), List.append_nil]
theorem movedN_put {K : Nat} {sp : List S230} {s : List Nat} {n y : Nat} (h1 : fst s n ≠ 0) (h2 : (rdSp sp n).f2 = (y : Int)) (hy : y < K) : (movedN K sp s n).set y (marksOf sp s y n ++ [⟨((n + 1 : Nat) : Int), ((fst s n : Nat) : Int)⟩]) = movedN K sp s (n + 1) := by
 apply List.ext_getElem?; intro d; rcases Nat.lt_or_ge d K with hd | hd
 ·rw [List.getElem?_set, movedN_get hd, movedN_get hd, marksOf_succ]; by_cases h : y = d
  ·subst h; rw [if_pos rfl, if_pos (by rw [movedN_len]; exact hy), if_pos ⟨h1, h2⟩]
  ·rw [if_neg h, if_neg (by rintro ⟨_, h3⟩; omega), List.append_nil]
 ·rw [List.getElem?_eq_none (by rw [List.length_set, movedN_len]; exact hd), List.getElem?_eq_none (by rw [movedN_len]; exact hd)]
structure Mv (w0 W : World) (go : Nat) (vo : List Value) (xs : List (List S166)) : Prop where
 below : Below w0.heap.size w0 W
 ob : W.heap[go]? = some (.cells vo.toArray 167 (0, 0))
 rows : Rows k166 166 W w0.heap.size vo xs
 ge : w0.heap.size ≤ go
section
variable {w0 W W1 : World} {go : Nat} {vo : List Value} {xs : List (List S166)}
theorem Mv.bel (h : Mv w0 W go vo xs) (hb : Below W.heap.size W W1) : Mv w0 W1 go vo xs := ⟨zam h.below hb, zak h.ob hb, h.rows.below hb, h.ge⟩
theorem Mv.alloc (h : Mv w0 W go vo xs) (o : Obj) : Mv w0 (W.alloc o) go vo xs := h.bel (zac (Below.refl _ _) o)
theorem Mv.drewN (h : Mv w0 W go vo xs) (n : Nat) : Mv w0 (W.drewN n) go vo xs := h.bel (zab (Below.refl _ _) n)
theorem Mv.put (h : Mv w0 W go vo xs) {x : Nat} {v v1 : Value} {ys : List S166} {ok : Nat → Prop} (hv : vo[x]? = some v) (hR : k166.R 166 W1 w0.heap.size ok v1 ys) (hg : W.grownBy W1 v.ownBlock) (hat : v1.ownBlock = v.ownBlock ∨ ∃ b, v1.ownBlock = some b ∧ W.heap.size ≤ b) (hb : Below w0.heap.size w0 W1) : Mv w0 (W1.setCell ⟨go, x, none⟩ v1) go (vo.set x v1) (xs.set x ys) := by
 obtain ⟨y, hy, hr⟩ := h.rows.at_ hv; have h2 := zas h.ob hg (Kd.R_ne hr h.ob (by decide))
 exact ⟨zaf hb h.ge, zat h2 x v1 (by rw [List.setIfInBounds_toArray]), (h.rows.put rfl hv hg hR hat).set h2 (by decide) x v1, h.ge⟩
end
theorem info166 : (Tryd.prog.info? 166).map (fun i => (i.zero, i.size, i.bytes)) = some (some (.agg #[.int .i64 0, .int .u64 0]), 2, 16) := by kernel_rfl
theorem at_U {W : World} {A : Option Addr} {n : Nat} {xs : List Nat} (h : kU.C W A n xs) {i : Nat} (hi : i < n) : ∃ ad, A = some ad ∧ W.cell? (ad.add i) = some (.int .u64 ((fst xs i : Nat) : Int)) := by
 obtain ⟨ad, c, e, _, hK, hc⟩ := Kd.C_get h 0 (i : Int) (Int.natCast_nonneg _) (by omega)
 rw [Int.toNat_natCast] at hK hc; refine ⟨ad, e, ?_⟩; have hK' : c = [Value.int .u64 ((xs.getD i 0 : Nat) : Int)] := hK; subst hK'; have := hc 0 _ rfl
 rwa [show i * kU.sz + 0 = i by simp [kU, Kd.scalar]] at this
structure Mr (W : World) (base go : Nat) (vo : List Value) (xs : List (List S166)) : Prop where
 ob : W.heap[go]? = some (.cells vo.toArray 167 (0, 0))
 rows : Rows k166 166 W base vo xs
theorem Mr.bel {W W1 : World} {base go : Nat} {vo : List Value} {xs : List (List S166)} (h : Mr W base go vo xs) (hb : Below W.heap.size W W1) : Mr W1 base go vo xs := ⟨zak h.ob hb, h.rows.below hb⟩
theorem Mr.over {W W1 : World} {base go : Nat} {vo : List Value} {xs : List (List S166)} (h : Mr W base go vo xs) {α : Type} {d : Kd α} {e b : Nat} {ok : Nat → Prop} {v : Value} {ys : List α} (hr : d.R e W b ok v ys) (h1 : 166 ≠ e) (h2 : 167 ≠ e) (hg : W.grownBy W1 v.ownBlock) : Mr W1 base go vo xs :=
 ⟨zas h.ob hg (Kd.R_ne hr h.ob (fun e => h2 e.symm)), h.rows.over hr h1 hg⟩
theorem Mr.set {W : World} {base go : Nat} {vo : List Value} {xs : List (List S166)} (h : Mr W base go vo xs) {g t : Nat} {cs : Array Value} (hc : W.heap[g]? = some (.cells cs t (0, 0))) (h1 : 166 ≠ t) (h2 : 167 ≠ t) (j : Nat) (u : Value) : Mr (W.setCell ⟨g, j, none⟩ u) base go vo xs :=
 ⟨zar h.ob (p := ⟨g, j, none⟩) (blk_ne h.ob hc h2) u, h.rows.set hc h1 j u⟩
theorem Mr.reads {W : World} {base go : Nat} {vo : List Value} {xs : List (List S166)} (h : Mr W base go vo xs) (hm : xs.length ≤ 192) : (Kd.slice 166 k166).C W (some ⟨go, 0, none⟩) xs.length xs := h.rows.reads h.ob (by rw [h.rows.len]; omega)
def RetMv (K : Nat) (xs : List (List S166)) (w : World) (e : Ending) (w' : World) : Prop := ∃ go vo, e = .returned (.slice (some ⟨go, 0, none⟩) K K) ∧ Mr w' w.heap.size go vo xs ∧ Below w.heap.size w w'
set_option maxRecDepth 100000 in
set_option maxHeartbeats 4000000 in
theorem moved_any (gb : Nat) (A : Option Addr) (T c : Nat) (B : Option Addr) (M d : Nat) (slC va : Value) (As : Option Addr) (cs : Nat) (sp : List S230) (Ao : Option Addr) (co : Nat) (of_ : List (List Nat)) (w : World) (hb : BookR w gb A T c B M d slC va As cs sp Ao co of_) (hf : FitB T M sp of_) (hT : T ≤ 64) (hM : M ≤ 128)
  (Al : Option Addr) (cl : Nat) (s : List Nat) (hs : kU.C w Al s.length s) (hsl : s.length = sp.length) (hlt : ∀ x ∈ s, x < zbi) :
  Calls Tryd.prog 67 #[.pointer (some ⟨gb, 0, none⟩), .slice Al s.length cl] w (RetMv (T + M) (movedN (T + M) sp s s.length) w) := by
 have HBK := Lib.hid hb; have HF := Lib.hid hf; have HS := Lib.hid hs; have HSL := Lib.hid hsl; have HLT := Lib.hid hlt; have hN := hf.n20; clear hf hs hb hsl hlt; obtain ⟨K, hK⟩ : ∃ K, K = T + M := ⟨_, rfl⟩; rw [← hK]; have hK192 : K ≤ 192 := by omega
 have hw0 : IntKind.i64.wrap ((T : Int) + (M : Int)) = (K : Int) := by rw [IntWalk.i64_in _ (by omega)]; omega
 have HKE := Lib.hid hK; clear hK; have hmk : ∀ W : World, (Instr.makeSlice 173 (.int .i64 (K : Int)) (.int .i64 (K : Int))).run Tryd.prog W = .ok (.slice (some ⟨W.heap.size, 0, none⟩) K K) (W.alloc (.cells (Array.replicate K (Value.slice none 0 0)) 167)) := fun W => by
  rw [← List.toArray_replicate, ← made_one]; exact run_make_row' 173 167 (.slice none 0 0) 24 Tryd.underlying173 info167 rfl .i64 .i64 K (by omega) (by omega) W
 go_enter Tryd.func67, Tryd.ntmps67
 go_wp2_with fail
 refine start_ (n := 15) (S := fun w' => w'.cell? ⟨gb, 0, none⟩ = some (.slice A T c) ∧ w'.cell? ⟨gb, 1, none⟩ = some (.slice B M d)) (ds := []) #[false, false, false, false, false, false, false, false, false, false, false, false, false, false, false] (by kernel_rfl) rfl rfl ⟨(zaa (zah HBK.out.bk) 0), (zaa (zah HBK.out.bk) 1)⟩ (fun hHeld => ?_)
 refine pe_ 0 (some 9) ?_ ?_ ?_ ?_ ?_; rotate_left
 ·intro w'; go_simp
  with_reducible rfl
 rotate_left
 ·simp only [nm_]; rfl
 refine pe_ 1 (some 10) ?_ ?_ ?_ ?_ ?_; rotate_left
 ·intro w'; go_simp
  with_reducible rfl
 rotate_left
 ·simp only [nm_]; rfl
 refine pe_ 2 (some 11) ?_ ?_ ?_ ?_ ?_; rotate_left
 ·intro w'; go_simp
  with_reducible rfl
 rotate_left
 ·simp only [nm_]; rfl
 refine pe_ 3 (some 12) ?_ ?_ ?_ ?_ ?_; rotate_left
 ·intro w'; go_simp
  with_reducible rfl
 rotate_left
 ·simp only [nm_]; rfl
 refine pe_ 6 (some 15) ?_ ?_ ?_ ?_ ?_; rotate_left
 ·intro w'; go_simp
  with_reducible rfl
 rotate_left
 ·simp only [nm_]; rfl
 refine pe_ 7 (some 16) ?_ ?_ ?_ ?_ ?_; rotate_left
 ·intro w'; go_simp
  with_reducible rfl
 rotate_left
 ·simp only [nm_]; rfl
 refine pe_ 8 (some 17) ?_ ?_ ?_ ?_ ?_; rotate_left
 ·intro w'; go_simp
  with_reducible rfl
 rotate_left
 ·simp only [nm_]; rfl
 refine pe_ 9 (some 18) ?_ ?_ ?_ ?_ ?_; rotate_left
 ·intro w'; go_simp
  with_reducible rfl
 rotate_left
 ·simp only [nm_]; rfl
 refine te_ 4 (some 13) hHeld ?_ ?_ ?_ ?_ ?_; rotate_left
 ·rintro w' ⟨s0, s1⟩; go_simp
  with_reducible rfl
 rotate_left
 ·simp only [nm_]; rfl
 refine pe_ 5 (some 14) ?_ ?_ ?_ ?_ ?_; rotate_left
 ·intro w'; go_simp
  with_reducible rfl
 rotate_left
 ·simp only [nm_]; rfl
 refine te_ 10 (some 19) hHeld ?_ ?_ ?_ ?_ ?_; rotate_left
 ·rintro w' ⟨s0, s1⟩; go_simp
  with_reducible rfl
 rotate_left
 ·simp only [nm_]; rfl
 refine pe_ 11 (some 20) ?_ ?_ ?_ ?_ ?_; rotate_left
 ·intro w'; go_simp
  with_reducible rfl
 rotate_left
 ·simp only [nm_]; rfl
 refine pe_ 12 (some 21) ?_ ?_ ?_ ?_ ?_; rotate_left
 ·intro w'; go_simp
  with_reducible rfl
 rotate_left
 ·simp only [nm_]; rfl
 refine ou_ (i := 13) (N := some 22) rfl rfl (by kernel_rfl) (by decide) (fun K hK => ?_)
 refine value_ (w1 := ?_) (v := ?_) (by rfl) rfl ?_ ?_
 rotate_left 2
 ·go_simp; constructor
  ·rfl
  ·rfl
 refine hK.out _ _ ⟨(zaa (zah (zad HBK.out.bk _)) 0), (zaa (zah (zad HBK.out.bk _)) 1)⟩ (fun hHeld => ?_)
 clear hK K; refine norm_ (a' := ?_) ?_ ?_; rotate_left
 ·show Act.put _ (some 22) _ = _; simp only [nm_]; rfl
 refine pe_ 14 (some 5) ?_ ?_ ?_ ?_ ?_; rotate_left
 ·intro w'; go_simp
  with_reducible rfl
 rotate_left
 ·simp only [nm_]; rfl
 refine done_ (by kernel_rfl) ?_
 clear hmk hw0; have HMV : Hid (Mv w (w.alloc (.cells (Array.replicate K (Value.slice none 0 0)) 167)).drew w.heap.size (List.replicate K (.slice none 0 0)) (movedN K sp s 0)) := Lib.hid ⟨zaw (zac (Below.refl _ _) _), by rw [List.toArray_replicate]; exact zah (zau w _), by rw [movedN_zero]; exact Rows.nil rfl K, Nat.le_refl _⟩
 go_simp; generalize (w.alloc (.cells (Array.replicate K (Value.slice none 0 0)) 167)).drew = W1 at *
 go_wp2_with fail
 go_loopw [25] (fun v w' => ∃ (i : Nat) (vo : List Value), v = .int .i64 (i : Int) ∧ i ≤ s.length ∧ Hid (Mv w w' w.heap.size vo (movedN K sp s i))) (fun v _ => s.length - (intOf v).toNat)
 case atStart => exact ⟨0, _, rfl, Nat.zero_le _, HMV⟩
 case round =>
  clear HMV; obtain ⟨i, vo, rfl, hi, HMV⟩ := hrel; by_cases hil : i < s.length
  ·have HB := Lib.hid (HBK.out.below HMV.out.below); obtain ⟨adl, rfl, l0⟩ := at_U (Kd.zav HS.out HMV.out.below) (i := i) hil; have hisp : i < sp.length := by have := HSL.out; omega
   obtain ⟨ads, rfl, -, -, x2c, -, -⟩ := at_T230 HB.out.hsp (i : Int) (by omega) (by omega)
   rw [Int.toNat_natCast, rd230 hisp] at x2c; have b1 := zaa HB.out.bk 3; simp at b1; have hsy := HF.out.sym _ (rdSp_mem hisp); have hib : decide ((i : Int) < (s.length : Int)) = true := decide_eq_true (by omega)
   have hi0 : (0 : Int) ≤ (i : Int) := by omega
   have hi1 : (i : Int) < (s.length : Int) := by omega
   have hi3 : (i : Int) < (sp.length : Int) := by omega
   have hiw : IntKind.i64.wrap ((i : Int) + 1) = (i : Int) + 1 := IntWalk.i64_in _ (by omega)
   have hi2 : i + 1 ≤ s.length := hil; have hme : s.length - (i + 1) < s.length - i := by omega
   have HSK := Lib.hid (fun h => movedN_skip (K := K) (sp := sp) (s := s) (n := i) h)
   have HSP := Lib.hid (fun (y : Nat) h1 h2 h3 => movedN_put (K := K) (sp := sp) (s := s) (n := i) (y := y) h1 h2 h3)
   have hfl : fst s i < zbi := fst_lt HLT.out i; generalize hfs : fst s i = fs at *; generalize (rdSp sp i).f2 = x2 at *; have HFS := Lib.hid hfs; have HFL := Lib.hid hfl; clear hfs hfl; by_cases h0 : fs = 0
   ·have HM2 : Hid (Mv w wr w.heap.size vo (movedN K sp s (i + 1))) := Lib.hid (by rw [HSK.out (.inl h0)]; exact HMV.out)
    subst h0; clear HMV HSK HSP
    go_wp2_with fail
    go_roundw
    case rel => first | exact ⟨i + 1, _, by rw [Int.natCast_add]; rfl, hi2, HM2⟩ | ((repeat apply Exists.intro); exact ⟨⟨i + 1, _, by rw [Int.natCast_add]; rfl, hi2, HM2⟩, rfl⟩)
    case measure => exact hme
   ·have hne : (((fs : Nat) : Int) != 0) = true := by rw [bne_iff_ne]; omega
    have hne2 : (((fs : Nat) : Int) == 0) = false := by rw [beq_eq_false_iff_ne]; omega
    have hne3 : ((fs : Int) = 0) = False := by simp; exact h0
    by_cases h1 : 0 ≤ x2
    ·obtain ⟨y, rfl⟩ := Int.eq_ofNat_of_zero_le h1; have hyK : y < K := by have := HKE.out; omega
     have hyb : decide ((y : Int) ≥ 0) = true := decide_eq_true (by omega)
     have hy0 : (0 : Int) ≤ (y : Int) := Int.natCast_nonneg _; have hy1 : (y : Int) < (K : Int) := by omega
     obtain ⟨vx, hvx⟩ : ∃ vx, vo[y]? = some vx := ⟨_, List.getElem?_eq_getElem (by rw [HMV.out.rows.len, movedN_len]; exact hyK)⟩
     obtain ⟨yx, hyx, hrx⟩ := HMV.out.rows.at_ hvx; rw [movedN_get hyK] at hyx; cases hyx; obtain ⟨Ax, cx, rfl, hcx, -⟩ := Kd.zbb hrx; have hlen := marksOf_len sp s y i; have hbo : ((marksOf sp s y i).length + 1) * 16 ≤ 140737488355328 := by omega
     have c1 := zaa HMV.out.ob y; rw [List.getElem?_toArray, hvx] at c1; have HVX := Lib.hid hvx; have HM1 := Lib.hid (HMV.out.alloc (.cells #[.int .i64 ((i : Int) + 1), .int .u64 (fs : Int)] 166)); have HL := Lib.hid (C_lit1 (k := k166) (x := ⟨((i + 1 : Nat) : Int), (fs : Int)⟩) (k166_mk _ _) (zau wr (.cells #[.int .i64 ((i : Int) + 1), .int .u64 (fs : Int)] 166))); obtain ⟨yx, hyx, hrx2⟩ := HM1.out.rows.at_ HVX.out; rw [movedN_get hyK] at hyx; cases hyx; have HRX := Lib.hid hrx2; clear hvx hrx hrx2 hlen
     go_wp2_with ((with_reducible refine zay (b := .append) (xs := #[.tmp 49, .tmp 54]) rfl ?_); refine Hid.out ?_)
     refine Lib.hid ?_
     at_builtin
     refine Kd.zbj k166 (w0 := w) w.heap.size rfl (.tmp 49) (.tmp 54) 167 166 (.agg #[.int .i64 0, .int .u64 0]) 16 rfl Tryd.underlying167 info166 rfl (by decide) (by decide) _ (marksOf sp s y i) [⟨((i + 1 : Nat) : Int), (fs : Int)⟩] (some ⟨_, 0, none⟩) 1 1 tru (fun _ => False) rfl rfl (Kd.R_mono HRX.out (fun _ _ => trivial)) HL.out (fun _ _ h => h) (fun _ h => h.elim) (fun _ _ => trivial) HM1.out.below HM1.out.below.size hbo ?_
     intro v1 w1 ho1 hb1 hg1 hat1; obtain ⟨A1, c1', hv1, -, -⟩ := Kd.zbb ho1; generalize hn1 : (marksOf sp s y i ++ [(⟨((i + 1 : Nat) : Int), (fs : Int)⟩ : S166)]).length = n1 at hv1; subst hv1; have HM2 : Hid (Mv w (w1.setCell ⟨w.heap.size, y, none⟩ (.slice A1 n1 c1')) w.heap.size (vo.set y (.slice A1 n1 c1')) (movedN K sp s (i + 1))) := Lib.hid (by
      have h := HM1.out.put HVX.out ho1 hg1 hat1 hb1; rw [← HSP.out y h0 rfl hyK]; exact h)
     have d1 := zaa (zas HM1.out.ob hg1 (Kd.R_ne HRX.out HM1.out.ob (by decide))) y
     rw [List.getElem?_toArray, HVX.out] at d1; have d1f := zae (zas HM1.out.ob hg1 (Kd.R_ne HRX.out HM1.out.ob (by decide))) y
     clear hn1 ho1 hb1 hg1 hat1 HM1 HMV HRX HL c1 HSK HSP HVX
     go_wp2_with fail
     go_roundw
     case rel => first | exact ⟨i + 1, _, by rw [Int.natCast_add]; rfl, hi2, HM2⟩ | ((repeat apply Exists.intro); exact ⟨⟨i + 1, _, by rw [Int.natCast_add]; rfl, hi2, HM2⟩, rfl⟩)
     case measure => exact hme
    ·have hyb : decide (x2 ≥ 0) = false := decide_eq_false (by omega)
     have HM2 : Hid (Mv w wr w.heap.size vo (movedN K sp s (i + 1))) := Lib.hid (by rw [HSK.out (.inr (by omega))]; exact HMV.out)
     clear HMV HSK HSP
     go_wp2_with fail
     go_roundw
     case rel => first | exact ⟨i + 1, _, by rw [Int.natCast_add]; rfl, hi2, HM2⟩ | ((repeat apply Exists.intro); exact ⟨⟨i + 1, _, by rw [Int.natCast_add]; rfl, hi2, HM2⟩, rfl⟩)
     case measure => exact hme
  ·have hib : decide ((i : Int) < (s.length : Int)) = false := decide_eq_false (by omega)
   have hie : i = s.length := by omega
   subst hie
   go_wp2_with fail
   go_ret; exact ⟨w.heap.size, vo, rfl, ⟨HMV.out.ob, HMV.out.rows⟩, HMV.out.below⟩
def bitsOf (t : Nat) : List Nat := (List.range 64).filter fun k => t.testBit k
theorem filter_first {p q : Nat → Bool} {c : Nat} (h1 : ∀ k, k < c → p k = false) (h2 : p c = true) (h3 : ∀ k, k ≤ c → q k = false) (h4 : ∀ k, c < k → q k = p k) : ∀ n, c < n → (List.range n).filter p = c :: (List.range n).filter q
 | 0, h => absurd h (Nat.not_lt_zero _)
 | n + 1, h => by
  rw [List.range_succ, List.filter_append, List.filter_append]; rcases Nat.lt_or_ge c n with hc | hc
  ·rw [filter_first h1 h2 h3 h4 n hc, List.cons_append]
   congr 2
   rw [List.filter_cons, List.filter_cons, h4 n hc, List.filter_nil, List.filter_nil]
  ·have e : c = n := by omega
   subst e; have e1 : (List.range c).filter p = [] := List.filter_eq_nil_iff.2 (fun k hk => by rw [h1 k (List.mem_range.1 hk)]; decide)
   have e2 : (List.range c).filter q = [] := List.filter_eq_nil_iff.2 (fun k hk => by rw [h3 k (Nat.le_of_lt (List.mem_range.1 hk))]; decide)
   rw [e1, e2, List.filter_cons, if_pos h2, List.filter_cons, if_neg (by rw [h3 c (Nat.le_refl _)]; decide)]
   rfl
theorem bit_val (x k : Nat) : x.testBit k = decide (x / 2 ^ k % 2 = 1) := by rw [Nat.testBit_eq_decide_div_mod_eq]
theorem low_bits (c m : Nat) : (∀ k, k < c → (2 ^ c * (2 * m + 1)).testBit k = false) ∧ (2 ^ c * (2 * m + 1)).testBit c = true ∧ (∀ k, k ≤ c → (2 ^ c * (2 * m + 1) &&& (2 ^ c * (2 * m + 1) - 1)).testBit k = false) ∧ (∀ k, c < k → (2 ^ c * (2 * m + 1) &&& (2 ^ c * (2 * m + 1) - 1)).testBit k = (2 ^ c * (2 * m + 1)).testBit k) := by
 have hp : 0 < 2 ^ c := Nat.two_pow_pos c; have t1 : ∀ k, k < c → (2 ^ c * (2 * m + 1)).testBit k = false := fun k hk => by
  rw [Nat.mul_comm, Nat.testBit_mul_two_pow]; simp; omega
 have t2 : (2 ^ c * (2 * m + 1)).testBit c = true := by
  rw [Nat.mul_comm, Nat.testBit_mul_two_pow, Nat.sub_self]; simp
 have e : 2 ^ c * (2 * m + 1) - 1 = 2 ^ (c + 1) * m + (2 ^ c - 1) := by
  rw [Nat.mul_add, Nat.mul_one, Nat.pow_succ, Nat.mul_assoc]; omega
 have d1 : (2 ^ c * (2 * m + 1) - 1) / 2 ^ c = 2 * m := by
  rw [e, Nat.pow_succ, Nat.mul_assoc, Nat.mul_add_div hp, Nat.div_eq_of_lt (by omega), Nat.add_zero]
 have d2 : (2 ^ c * (2 * m + 1)) / 2 ^ c = 2 * m + 1 := Nat.mul_div_cancel_left _ hp; refine ⟨t1, t2, fun k hk => ?_, fun k hk => ?_⟩
 ·rw [Nat.testBit_and]; rcases Nat.lt_or_ge k c with h | h
  ·rw [t1 k h, Bool.false_and]
  ·have : k = c := by omega
   subst this; rw [bit_val (_ - 1), d1]; simp
 ·rw [Nat.testBit_and]; obtain ⟨j, rfl⟩ : ∃ j, k = c + (j + 1) := ⟨k - c - 1, by omega⟩
  have h1 : (2 ^ c * (2 * m + 1) - 1).testBit (c + (j + 1)) = (2 ^ c * (2 * m + 1)).testBit (c + (j + 1)) := by
   rw [bit_val, bit_val, Nat.pow_add, ← Nat.div_div_eq_div_mul, ← Nat.div_div_eq_div_mul, d1, d2, Nat.pow_succ, Nat.mul_comm (2 ^ j), ← Nat.div_div_eq_div_mul, ← Nat.div_div_eq_div_mul, show 2 * m / 2 = m by omega, show (2 * m + 1) / 2 = m by omega]
  rw [h1, Bool.and_self]
theorem bitsOf_step {t : Nat} (h0 : t ≠ 0) (h : t < zbi) : bitsOf t = Lib.ctz 64 t :: bitsOf (t &&& (t - 1)) := by
 obtain ⟨m, hm, hk⟩ := Lib.ctzFrom_spec 64 t (by omega) h
 have e : Lib.ctz 64 t = Lib.ctzFrom 64 t := by simp [Lib.ctz, h0]
 rw [e]; generalize Lib.ctzFrom 64 t = c at *; subst hm; obtain ⟨l1, l2, l3, l4⟩ := low_bits c m; exact filter_first l1 l2 l3 l4 64 hk
theorem bitsOf_zero : bitsOf 0 = [] := by
 unfold bitsOf; exact List.filter_eq_nil_iff.2 (fun k _ => by rw [Nat.zero_testBit]; decide)
theorem bitsOf_len (t : Nat) : (bitsOf t).length ≤ 64 := by
 have := List.length_filter_le (fun k => t.testBit k) (List.range 64)
 rw [List.length_range] at this; exact this
def Tab64 (w : World) : Prop := ∀ j, j < 64 → w.cell? ⟨1, j, none⟩ = some (.int .u8 ((Lib.deBruijn64tab.getD j 0 : Nat) : Int))
theorem Tab64.below {w w1 : World} (h : Tab64 w) (hb : Below w.heap.size w w1) : Tab64 w1 := fun j hj => zan hb (h j hj)
theorem tz_key (x a : Nat) (hx : x < 18446744073709551616) (hlow : x &&& (18446744073709551616 - x) = a) (hx0 : x ≠ 0) :
  IntKind.u64.wrap (bits BinOp.and IntKind.u64 (x : Int) (IntKind.u64.wrap (-(x : Int))) * 285870213051353865) / 288230376151711744 = ((a * 285870213051353865 % 18446744073709551616 / 288230376151711744 : Nat) : Int) := by
 have e1 : IntKind.u64.wrap (-(x : Int)) = ((18446744073709551616 - x : Nat) : Int) := by rw [IntKind.wrap_u64]; omega
 rw [e1, u64_and_nat x _ hx (by omega), hlow, IntKind.wrap_u64]
 omega
set_option maxRecDepth 100000 in
set_option maxHeartbeats 4000000 in
theorem tz_core (x k idx : Nat) (w : World) (hz : ((x : Int) == 0) = false)
  (key : IntKind.u64.wrap (bits BinOp.and IntKind.u64 (x : Int) (IntKind.u64.wrap (-(x : Int))) * 285870213051353865) / 288230376151711744 = (idx : Int))
  (hi : idx < 64) (hk : k < 64) (hcell : w.cell? ⟨1, idx, none⟩ = some (.int .u8 (k : Int))) :
  Calls Tryd.prog 102 #[.int .u64 (x : Int)] w fun e w' => e = .returned (.int .i64 (k : Int)) ∧ w = w' := by
 have hi0 : (0 : Int) ≤ (idx : Int) := Int.natCast_nonneg _; have hi1 : (idx : Int) < 64 := by omega
 go_enter Tryd.func102, Tryd.ntmps102
 go_wp2_with (simp only [key])
 go_ret; exact ⟨rfl, rfl⟩
theorem tz_any (x : Nat) (hx : x < zbi) (hx0 : x ≠ 0) (w : World) (hT : Tab64 w) :
  Calls Tryd.prog 102 #[.int .u64 (x : Int)] w fun e w' => e = .returned (.int .i64 ((Lib.ctz 64 x : Nat) : Int)) ∧ w = w' := by
 have e64 : (2 : Nat) ^ 64 = 18446744073709551616 := by decide
 have hx' : x < 18446744073709551616 := hx; obtain ⟨hlow, hk⟩ := Lib.lowest_bit 64 x hx0 (by rw [e64]; exact hx')
 rw [e64] at hlow; obtain ⟨hi, htab⟩ := Lib.deBruijn64_at _ hk; have hcell := hT _ hi; rw [htab] at hcell; exact tz_core x _ _ w (by rw [beq_eq_false_iff_ne]; omega) (tz_key x _ hx' hlow hx0) hi hk hcell
end Bld
end Go.Proofs.YtcijanmckhlpiaaDoor
namespace Go.Proofs.YtcijanmckhlpiaaDoor.Laid4
open Go.ChangeShapes Go.WideShapes Go.ChangeAt Go.RowKit
def laid : List (String × DataW Unit) := [("math/bits.deBruijn32tab", Rows.laid_math_bits_deBruijn32tab), ("math/bits.deBruijn64tab", Rows.laid_math_bits_deBruijn64tab), ("internal/strconv.uint64pow10", Rows.laid_internal_strconv_uint64pow10), ("errors.errorType", Rows.laid_errors_errorType)]
theorem et : Tryd.prog.globalNamed "errors.errorType" = some 0 := by kernel_rfl
theorem rt : (Tryd.prog.cutTypes.find? (·.1 == "internal/reflectlite.rtype")).map (·.2) = some 192 := by kernel_rfl
theorem size : Tryd.prog.types.size = 325 := by kernel_rfl
theorem oneRow : ((List.range 325).filter fun t => Tryd.prog.rowNamed t [101, 114, 114, 111, 114]) = [27] := by kernel_rfl
theorem errType {W : World} (h : laidMetH Tryd.prog laid W) : Dec.ErrType W := by
 have h2 := laidMetH.filter (fun x => x.1 == "errors.errorType") h
 rw [show (laid.filter fun x => x.1 == "errors.errorType") = [("errors.errorType", Rows.laid_errors_errorType)] by kernel_rfl] at h2
 have h' : laidMet Tryd.prog [] W ∧ handlesMet Tryd.prog [("errors.errorType", Rows.laid_errors_errorType)] W := h2; obtain ⟨name, u, ty, e1, e2, e3, e4, e5⟩ := h'.2 _ (List.mem_singleton.2 rfl); have en : name = [101, 114, 114, 111, 114] := (Option.some.inj e1).symm; subst en; obtain rfl := Option.some.inj (rt.symm.trans e2); have hm : ty ∈ (List.range 325).filter fun t => Tryd.prog.rowNamed t [101, 114, 114, 111, 114] := List.mem_filter.2 ⟨List.mem_range.2 (by rw [← size]; exact e3), e4⟩
 rw [oneRow] at hm; obtain rfl := List.mem_singleton.1 hm; have hh : typeHandle Tryd.prog 27 = .pointer (some ⟨4, 27, none⟩) := by kernel_rfl
 rw [hh] at e5
 simpa [Dec.ErrType] using World.var?_cell et e5 0
theorem g64 : Tryd.prog.globalNamed "math/bits.deBruijn64tab" = some 1 := by kernel_rfl
theorem g64Type : (Tryd.prog.globals[1]?).map (·.type) = some 256 := by kernel_rfl
theorem cells64 : Tryd.prog.cellsOf 256 = 64 := by kernel_rfl
theorem cellsU8 : Tryd.prog.cellsOf 5 = 1 := by kernel_rfl
theorem tab64 {W : World} (h : laidMetH Tryd.prog laid W) : Bld.Tab64 W := by
 have h2 := laidMetH.filter (fun x => x.1 == "math/bits.deBruijn64tab") h
 rw [show (laid.filter fun x => x.1 == "math/bits.deBruijn64tab") = [("math/bits.deBruijn64tab", Lib.tabData .u8 (Lib.deBruijn64tab.map fun n : Nat => (n : Int)))] by kernel_rfl] at h2
 rw [Go.MakeChecks.laidMetH_plain _ _ _ (by kernel_rfl)] at h2
 have h3 := Lib.tabIs_of_head (rest := []) g64 g64Type Tryd.underlying256 Tryd.underlying5 cellsU8 cells64 h2; intro j hj; have h4 := World.var?_cell g64 h3 j; rw [h4]; have hl : Lib.deBruijn64tab.length = 64 := rfl; rw [List.getElem?_toArray, List.getElem?_map, List.getElem?_map, List.getD_eq_getElem?_getD, List.getElem?_eq_getElem (by omega)]
 rfl
noncomputable def laidWorld (os : Os) : World :=
 let w0 := World.holding Tryd.prog os ⟨#[], #[], []⟩
 { w0 with heap := (((w0.heap.modify 0 fun
   | .cells _ t frozen => .cells #[.iface 192 (.agg #[.pointer (some ⟨4, 27, none⟩)])] t frozen
   | o => o).modify 1 fun
   | .cells _ t frozen => .cells #[.int .u8 0, .int .u8 1, .int .u8 56, .int .u8 2, .int .u8 57, .int .u8 49, .int .u8 28, .int .u8 3, .int .u8 61, .int .u8 58, .int .u8 42, .int .u8 50, .int .u8 38, .int .u8 29, .int .u8 17, .int .u8 4, .int .u8 62, .int .u8 47, .int .u8 59, .int .u8 36, .int .u8 45, .int .u8 43, .int .u8 51, .int .u8 22, .int .u8 53, .int .u8 39, .int .u8 33, .int .u8 30, .int .u8 24, .int .u8 18, .int .u8 12, .int .u8 5, .int .u8 63, .int .u8 55, .int .u8 48, .int .u8 27, .int .u8 60, .int .u8 41, .int .u8 37, .int .u8 16, .int .u8 46, .int .u8 35, .int .u8 44, .int .u8 21, .int .u8 52, .int .u8 32, .int .u8 23, .int .u8 11, .int .u8 54, .int .u8 26, .int .u8 40, .int .u8 15, .int .u8 34, .int .u8 20, .int .u8 31, .int .u8 10, .int .u8 25, .int .u8 14, .int .u8 19, .int .u8 9, .int .u8 13, .int .u8 8, .int .u8 7, .int .u8 6] t frozen
   | o => o).modify 2 fun
   | .cells _ t frozen => .cells #[.int .u64 1, .int .u64 10, .int .u64 100, .int .u64 1000, .int .u64 10000, .int .u64 100000, .int .u64 1000000, .int .u64 10000000, .int .u64 100000000, .int .u64 1000000000, .int .u64 10000000000, .int .u64 100000000000, .int .u64 1000000000000, .int .u64 10000000000000, .int .u64 100000000000000, .int .u64 1000000000000000, .int .u64 10000000000000000, .int .u64 100000000000000000, .int .u64 1000000000000000000, .int .u64 10000000000000000000] t frozen
   | o => o).modify 3 fun
   | .cells _ t frozen => .cells #[.int .u8 0, .int .u8 1, .int .u8 28, .int .u8 2, .int .u8 29, .int .u8 14, .int .u8 24, .int .u8 3, .int .u8 30, .int .u8 22, .int .u8 20, .int .u8 15, .int .u8 25, .int .u8 17, .int .u8 4, .int .u8 8, .int .u8 31, .int .u8 27, .int .u8 13, .int .u8 23, .int .u8 21, .int .u8 19, .int .u8 16, .int .u8 7, .int .u8 26, .int .u8 12, .int .u8 18, .int .u8 6, .int .u8 11, .int .u8 5, .int .u8 10, .int .u8 9] t frozen
   | o => o }
theorem parts (os : Os) (args : Array Value) (h1 : laidMet Tryd.prog (laid.filter fun x => x.2.handleName?.isNone) ((laidWorld os).forCall (fun _ _ => 0) ⟨#[], args, []⟩).memory) (h2 : (laid.filter fun x => x.2.handleName?.isSome).all (handleAtB Tryd.prog ((laidWorld os).forCall (fun _ _ => 0) ⟨#[], args, []⟩).memory) = true) : laidMetH Tryd.prog laid ((laidWorld os).forCall (fun _ _ => 0) ⟨#[], args, []⟩).memory :=
 laidMetH_of_parts h1 h2
end Go.Proofs.YtcijanmckhlpiaaDoor.Laid4
namespace Go.Proofs.YtcijanmckhlpiaaDoorW.PrintWords
open Go.RowKit
def Opens {α : Type} (P : Program) (t : TypeId) (d : Kd α) (G : α → Prop) : Prop :=
 ∀ {H : Type} (enc : TypeId × Value → H) (W : World) (base : Nat) (spare : Nat → Bool) (held : Bool) (fuel : Nat) (cs : List Value) (x : DataW H × List MemPlace),
  DataW.trod enc P W base spare held fuel t cs = some x → (∀ n ∈ x.1.weights P t, n ≤ reachBytes) → ∃ y, d.K W y cs ∧ G y
theorem opens_int {P : Program} {t : TypeId} {k : IntKind} (ht : P.underlying t = some (.int k)) : Opens P t (Kd.int k) (fun n => (Lit.int k n).wf = true) := by
 intro H enc W base spare held fuel cs x h _; obtain ⟨n, rfl, _, hw⟩ := DataW.trod_int ht h; exact ⟨n, rfl, hw⟩
theorem opens_bool {P : Program} {t : TypeId} (ht : P.underlying t = some .bool) : Opens P t Kd.bool (fun _ => True) := by
 intro H enc W base spare held fuel cs x h _; obtain ⟨b, rfl, _⟩ := DataW.trod_bool ht h; exact ⟨b, rfl, trivial⟩
theorem opens_string {P : Program} {t : TypeId} (ht : P.underlying t = some .string) : Opens P t Kd.string (fun s => s.size ≤ 140737488351232) := by
 intro H enc W base spare held fuel cs x h hw; obtain ⟨s, rfl, rfl, _⟩ := DataW.trod_string ht h; refine ⟨s, rfl, ?_⟩; have := hw s.data.toList.length (by simp [DataW.weights])
 rw [Array.length_toList] at this; exact this
theorem list_of {β : Type} {n : Nat} {p : Nat → β → Prop} (h : ∀ i, i < n → ∃ y, p i y) : ∃ ys : List β, ys.length = n ∧ ∀ i y, ys[i]? = some y → p i y := by
 induction n with
 | zero => exact ⟨[], rfl, fun i y hi => by simp at hi⟩
 | succ n ih =>
  obtain ⟨ys, h1, h2⟩ := ih (fun i hi => h i (by omega))
  obtain ⟨y, hy⟩ := h n (by omega)
  refine ⟨ys ++ [y], by simp [h1], fun i z hi => ?_⟩
  rcases Nat.lt_or_ge i n with hlt | hge
  ·rw [List.getElem?_append_left (by omega)] at hi
   exact h2 i z hi
  ·rw [List.getElem?_append_right (by omega)] at hi
   rcases Nat.eq_or_lt_of_le hge with he | he
   ·subst he; rw [h1, Nat.sub_self] at hi; injection hi with hi; exact hi ▸ hy
   ·rw [List.getElem?_eq_none (by simp; omega)] at hi; cases hi
theorem Opens.imp {α : Type} {P : Program} {t : TypeId} {d : Kd α} {G G' : α → Prop} (h : Opens P t d G) (hG : ∀ y, G y → G' y) : Opens P t d G' := by
 intro H enc W base spare held fuel cs x hx hw; obtain ⟨y, h1, h2⟩ := h enc W base spare held fuel cs x hx hw; exact ⟨y, h1, hG y h2⟩
theorem Opens.arg {α : Type} {P : Program} {t : TypeId} {d : Kd α} {G : α → Prop} (h : Opens P t d G) {H : Type} {enc : TypeId × Value → H} {W : World} {base : Nat} {spare : Nat → Bool} {held : Bool} {v : Value} {x : DataW H} {ps : List MemPlace} {ts : List TypeId} {ds : List (DataW H)} {j : Nat}
  (hsz : (DataW.weightsEach P ts ds).all (· ≤ reachBytes) = true) (ht : ts[j]? = some t) (hd : ds[j]? = some x) (hx : DataW.Trod enc P W base spare held t v x ps) : ∃ y, d.K W y v.cells.toList ∧ G y := by
 obtain ⟨fuel, hf⟩ := hx; refine h enc W base spare held fuel _ _ hf (fun n hn => ?_)
 have := List.all_eq_true.1 hsz n (DataW.weights_mem_each ht hd n hn)
 simpa using this
end Go.Proofs.YtcijanmckhlpiaaDoorW.PrintWords
namespace Go.Proofs.YtcijanmckhlpiaaDoor
open Go.RowKit Go.Proofs.YtcijanmckhlpiaaDoorW.PrintWords Go.Proofs.YtcijanmckhlpiaaDoor.PTableBuilds
namespace Gram
theorem bulk_pos {H : Type} (d : DataW H) : 1 ≤ Rows.uptoBulk d := by
 cases d with
 | lit v => cases v <;> simp [Rows.uptoBulk]
 | _ => simp [Rows.uptoBulk]
theorem bulk_mem {H : Type} : ∀ (l : List (DataW H)) (d : DataW H), d ∈ l → Rows.uptoBulk d ≤ Rows.uptoBulkAll l
 | [], d, h => by cases h
 | x :: r, d, h => by
  rcases List.mem_cons.1 h with rfl | h
  ·simp only [Rows.uptoBulkAll]; omega
  ·have := bulk_mem r d h; simp only [Rows.uptoBulkAll]; omega
theorem bulk_app {H : Type} : ∀ (l m : List (DataW H)), Rows.uptoBulkAll (l ++ m) = Rows.uptoBulkAll l + Rows.uptoBulkAll m
 | [], m => by simp [Rows.uptoBulkAll]
 | x :: l, m => by
  have := bulk_app l m; simp only [List.cons_append, Rows.uptoBulkAll]; omega
theorem bulk_sum {H α : Type} (f : α → Nat) (D : Nat → DataW H) : ∀ (n : Nat) (ys : List α), ys.length = n → (∀ i y, ys[i]? = some y → f y ≤ Rows.uptoBulk (D i)) → (ys.map f).sum ≤ Rows.uptoBulkAll ((List.range n).map D)
 | 0, ys, hl, h => by
  have : ys = [] := List.eq_nil_of_length_eq_zero hl; subst this; simp
 | n + 1, ys, hl, h => by
  rcases List.eq_nil_or_concat ys with rfl | ⟨zs, z, rfl⟩
  ·simp at hl
  ·rw [List.concat_eq_append] at h hl ⊢; have hl2 : zs.length = n := by simpa using hl
   have ih := bulk_sum f D n zs hl2 (fun i y hi => h i y (by
    have := (List.getElem?_eq_some_iff.1 hi).1; rw [List.getElem?_append_left this]; exact hi))
   have hz := h n z (by rw [List.getElem?_append_right (by omega), hl2, Nat.sub_self]; rfl)
   rw [List.range_succ, List.map_append, List.map_append, bulk_app]; simp only [List.map_append, List.map_cons, List.map_nil, List.sum_append_nat, List.sum_cons, List.sum_nil, Rows.uptoBulkAll]; omega
def OpensB {α : Type} (P : Program) (t : TypeId) (d : Kd α) (G : α → Prop) (f : α → Nat) : Prop :=
 ∀ {H : Type} (enc : TypeId × Value → H) (W : World) (base : Nat) (spare : Nat → Bool) (held : Bool) (fuel : Nat) (cs : List Value) (x : DataW H × List MemPlace),
  DataW.trod enc P W base spare held fuel t cs = some x → (∀ n ∈ x.1.weights P t, n ≤ reachBytes) → ∃ y, d.K W y cs ∧ G y ∧ f y ≤ Rows.uptoBulk x.1
theorem OpensB.of {α : Type} {P : Program} {t : TypeId} {d : Kd α} {G : α → Prop} (h : Opens P t d G) : OpensB P t d G (fun _ => 1) := by
 intro H enc W base spare held fuel cs x hx hw; obtain ⟨y, h1, h2⟩ := h enc W base spare held fuel cs x hx hw; exact ⟨y, h1, h2, bulk_pos _⟩
theorem OpensB.imp {α : Type} {P : Program} {t : TypeId} {d : Kd α} {G G' : α → Prop} {f f' : α → Nat} (h : OpensB P t d G f) (hG : ∀ y, G y → G' y) (hf : ∀ y, f' y ≤ f y) : OpensB P t d G' f' := by
 intro H enc W base spare held fuel cs x hx hw; obtain ⟨y, h1, h2, h3⟩ := h enc W base spare held fuel cs x hx hw; exact ⟨y, h1, hG y h2, Nat.le_trans (hf y) h3⟩
theorem opensB_slice {α : Type} {P : Program} {t e : TypeId} {d : Kd α} {G : α → Prop} {f : α → Nat} {B : Nat} (ht : P.underlying t = some (.slice e)) (hc : P.cellsOf e = d.sz) (hB : P.bytesOf e = B) (ho : OpensB P e d G f) :
  OpensB P t (Kd.slice e d) (fun ys => ys.length * B ≤ 140737488351232 ∧ ∀ y ∈ ys, G y) (fun ys => (ys.map f).sum + 1) := by
 intro H enc W base spare held fuel cs x h hw; rcases Go.Deep.open_slice ht h with ⟨rfl, rfl⟩ | ⟨a, len, cap, m, n, D, Pl, rfl, hb, hl, hm, hmm, rfl, hx⟩
 ·exact ⟨[], ⟨none, 0, rfl, Nat.zero_le _, Kd.C_nil d W⟩, ⟨by simp, fun y hy => by cases hy⟩, by simp [Rows.uptoBulk]⟩
 ·have hlm : len ≤ m := by rw [hmm]; split <;> omega
  simp only [DataW.weights, ht, List.mem_cons, List.mem_append, List.length_map, List.length_range] at hw; have hwe : ∀ i, i < len → ∀ k ∈ (D i).weights P e, k ≤ reachBytes := by
   intro i hi k hk; refine hw k (.inr (.inl ?_)); have : ∀ (l : List (DataW H)), D i ∈ l → k ∈ DataW.weightsAll P e l := by
    intro l
    induction l with
    | nil => intro h; cases h
    | cons q r ih =>
     intro h; simp only [DataW.weightsAll, List.mem_append]; rcases List.mem_cons.1 h with h | h
     ·exact .inl (h ▸ hk)
     ·exact .inr (ih h)
   exact this _ (List.mem_map.2 ⟨i, List.mem_range.2 hi, rfl⟩)
  have hel : ∀ i, i < len → ∃ y : List Value × α, W.cells? base (a.add (i * P.cellsOf e)) (P.cellsOf e) = some y.1 ∧ d.K W y.2 y.1 ∧ G y.2 ∧ f y.2 ≤ Rows.uptoBulk (D i) := by
   intro i hi; obtain ⟨cs', h1, h2⟩ := hx i (by omega)
   obtain ⟨y, h3, h4, h5⟩ := ho enc W base spare held n cs' _ h2 (hwe i hi); exact ⟨(cs', y), h1, h3, h4, h5⟩
  obtain ⟨ys, hys, hf⟩ := list_of hel; refine ⟨ys.map (·.2), ⟨some a, cap, by rw [List.length_map, hys], by rw [List.length_map, hys]; exact hl, ?_⟩, ⟨?_, ?_⟩, ?_⟩
  ·refine ⟨rfl, by rw [List.length_map, hys]; simp only [maxLen] at hm; omega, fun hp => ⟨a, rfl, fun j p hj => ?_⟩⟩
   rw [List.getElem?_map, Option.map_eq_some_iff] at hj; obtain ⟨q, hq, rfl⟩ := hj; obtain ⟨h1, h2, _⟩ := hf j q hq; obtain ⟨_, h3, h4⟩ := World.cells?_some h1; refine ⟨q.1, d.K_len h2, h2, fun i u hu => ?_⟩
   have hi : i < P.cellsOf e := by have := (List.getElem?_eq_some_iff.1 hu).1; omega
   rw [← hc, ← Go.Deep.add_add, h4 i hi]; exact hu
  ·rw [List.length_map, hys, ← hB]; have := hw _ (.inl rfl); refine Nat.le_trans (Nat.mul_le_mul_right _ ?_) this; omega
  ·intro y hy; obtain ⟨q, hq, rfl⟩ := List.mem_map.1 hy; obtain ⟨j, hj⟩ := List.mem_iff_getElem?.1 hq; exact (hf j q hj).2.2.1
  ·have hs := bulk_sum (fun q : List Value × α => f q.2) D len ys hys (fun i y hi => (hf i y hi).2.2.2)
   simp only [Rows.uptoBulk, List.map_map]; have e : (List.map (f ∘ fun x => x.2) ys).sum = (List.map (fun q : List Value × α => f q.2) ys).sum := rfl
   omega
def OpensFsB {α : Type} (P : Program) (o : Nat) (fs : List Field) (d : Kd α) (G : α → Prop) (f : α → Nat) : Prop :=
 ∀ {H : Type} (enc : TypeId × Value → H) (W : World) (base : Nat) (spare : Nat → Bool) (held : Bool) (fuel : Nat) (cs : List Value) (xs : List (DataW H × List MemPlace)), xs.length = fs.length →
  (∀ (i : Nat) (f : Field), fs[i]? = some f → DataW.trod enc P W base spare held fuel f.type ((cs.drop f.offset).take (P.cellsOf f.type)) = xs[i]?) → cs.length = o + d.sz →
  (∀ n ∈ DataW.weightsEach P (fs.map (·.type)) (xs.map (·.1)), n ≤ reachBytes) → ∃ y, d.K W y (cs.drop o) ∧ G y ∧ f y ≤ Rows.uptoBulkAll (xs.map (·.1))
theorem opensFsB_last {α : Type} {P : Program} {o : Nat} {f : Field} {d : Kd α} {G : α → Prop} {F : α → Nat} (hf : f.offset = o) (hc : P.cellsOf f.type = d.sz) (ho : OpensB P f.type d G F) : OpensFsB P o [f] d G F := by
 intro H enc W base spare held fuel cs xs hl hx hlen hw
 match xs, hl with
 | [x], _ =>
  have h := hx 0 f rfl; rw [hf, hc, List.take_of_length_le (by rw [List.length_drop]; omega)] at h
  obtain ⟨y, h1, h2, h3⟩ := ho enc W base spare held fuel _ x h (fun n hn => hw n (by
   simp only [List.map_cons, List.map_nil, DataW.weightsEach, List.append_nil]; exact hn))
  exact ⟨y, h1, h2, by simp only [List.map_cons, List.map_nil, Rows.uptoBulkAll]; omega⟩
theorem opensFsB_cons {α β : Type} {P : Program} {o : Nat} {f : Field} {fs : List Field} {d : Kd α} {d' : Kd β} {G : α → Prop} {G' : β → Prop} {F : α → Nat} {F' : β → Nat} (hf : f.offset = o) (hc : P.cellsOf f.type = d.sz) (ho : OpensB P f.type d G F) (hs : OpensFsB P (o + d.sz) fs d' G' F') :
  OpensFsB P o (f :: fs) (Kd.pair d d') (fun y => G y.1 ∧ G' y.2) (fun y => F y.1 + F' y.2) := by
 intro H enc W base spare held fuel cs xs hl hx hlen hw
 match xs, hl with
 | x :: xs, hl =>
  have h := hx 0 f rfl; rw [hf, hc] at h; have hlen' : cs.length = o + (d.sz + d'.sz) := hlen; obtain ⟨y, hy, hg, hb⟩ := ho enc W base spare held fuel _ x h (fun n hn => hw n (by
   simp only [List.map_cons, DataW.weightsEach, List.mem_append]; exact .inl hn))
  obtain ⟨y', hy', hg', hb'⟩ := hs enc W base spare held fuel cs xs (by simpa using hl) (fun i g hi => hx (i + 1) g hi) (by omega) (fun n hn => hw n (by
   simp only [List.map_cons, DataW.weightsEach, List.mem_append]; exact .inr hn))
  refine ⟨(y, y'), ⟨_, _, ?_, hy, hy'⟩, ⟨hg, hg'⟩, by simp only [List.map_cons, Rows.uptoBulkAll]; omega⟩
  rw [← List.drop_drop, List.take_append_drop]
theorem opensB_struct {α β : Type} {P : Program} {t : TypeId} {fs : Array Field} {d : Kd α} {G : α → Prop} {F : α → Nat} (f : β → α) (g : α → β) (hfg : ∀ a, f (g a) = a) (ht : P.underlying t = some (.struct fs)) (hc : P.cellsOf t = d.sz) (hs : OpensFsB P 0 fs.toList d G F) :
  OpensB P t (Kd.iso d f) (fun y => G (f y)) (fun y => F (f y) + 1) := by
 intro H enc W base spare held fuel cs x h hw; obtain ⟨xs, n, _, rfl, hl, hlen, hx⟩ := DataW.trod_struct ht h; simp only [DataW.weights, ht] at hw; obtain ⟨y, hy, hg, hb⟩ := hs enc W base spare held n cs xs (by simpa using hlen) (fun i f hi => hx i f (by simpa using hi)) (by omega) hw
 refine ⟨g y, ?_, ?_, ?_⟩
 ·show d.K W (f (g y)) cs; rw [hfg]; exact hy
 ·show G (f (g y)); rw [hfg]; exact hg
 ·show F (f (g y)) + 1 ≤ _; rw [hfg]; simp only [Rows.uptoBulk]; omega
theorem OpensB.arg {α : Type} {P : Program} {t : TypeId} {d : Kd α} {G : α → Prop} {f : α → Nat} (h : OpensB P t d G f) {H : Type} {enc : TypeId × Value → H} {W : World} {base : Nat} {spare : Nat → Bool} {held : Bool} {v : Value} {x : DataW H} {ps : List MemPlace} {ts : List TypeId} {ds : List (DataW H)} {j : Nat}
  (hsz : (DataW.weightsEach P ts ds).all (· ≤ reachBytes) = true) (ht : ts[j]? = some t) (hd : ds[j]? = some x) (hx : DataW.Trod enc P W base spare held t v x ps) : ∃ y, d.K W y v.cells.toList ∧ G y ∧ f y ≤ Rows.uptoBulk x := by
 obtain ⟨fuel, hf⟩ := hx; refine h enc W base spare held fuel _ _ hf (fun n hn => ?_)
 have := List.all_eq_true.1 hsz n (DataW.weights_mem_each ht hd n hn)
 simpa using this
theorem opens110 : OpensB Tryd.prog 110 k110 (fun _ => True) (fun _ => 4) :=
 OpensB.imp (opensB_struct (fun x : S110 => (x.f0, x.f1, x.f2)) (fun y => ⟨y.1, y.2.1, y.2.2⟩) (fun _ => rfl) Tryd.underlying110 (by kernel_rfl)
  (opensFsB_cons rfl (by kernel_rfl) (OpensB.of (opens_int Tryd.underlying3)) (opensFsB_cons rfl (by kernel_rfl) (OpensB.of (opens_string Tryd.underlying9)) (opensFsB_last rfl (by kernel_rfl) (OpensB.of (opens_string Tryd.underlying9)))))) (fun _ _ => trivial) (fun _ => Nat.le_refl _)
theorem opens77 : OpensB Tryd.prog 77 k77 (fun _ => True) (fun p => 4 * p.f1.length + 3) :=
 OpensB.imp (opensB_struct (fun x : S77 => (x.f0, x.f1)) (fun y => ⟨y.1, y.2⟩) (fun _ => rfl) Tryd.underlying77 (by kernel_rfl)
  (opensFsB_cons rfl (by kernel_rfl) (OpensB.of (opens_int Tryd.underlying3)) (opensFsB_last rfl (by kernel_rfl) (opensB_slice Tryd.underlying75 (by kernel_rfl) (B := 40) (by kernel_rfl) opens110)))) (fun _ _ => trivial) (fun y => by
   have e : (List.map (fun _ : S110 => 4) y.f1).sum = 4 * y.f1.length := by
    rw [List.map_const', List.sum_replicate_nat, Nat.mul_comm]
   simp only [e]; omega)
theorem opens112 : OpensB Tryd.prog 112 k112 (fun _ => True) (fun _ => 3) :=
 OpensB.imp (opensB_struct (fun x : S112 => (x.f0, x.f1)) (fun y => ⟨y.1, y.2⟩) (fun _ => rfl) Tryd.underlying112 (by kernel_rfl)
  (opensFsB_cons rfl (by kernel_rfl) (OpensB.of (opens_string Tryd.underlying9)) (opensFsB_last rfl (by kernel_rfl) (OpensB.of (opens_bool Tryd.underlying4))))) (fun _ _ => trivial) (fun _ => by omega)
theorem opens115 : OpensB Tryd.prog 115 k115 (fun _ => True) (fun _ => 3) :=
 OpensB.imp (opensB_struct (fun x : S115 => (x.f0, x.f1)) (fun y => ⟨y.1, y.2⟩) (fun _ => rfl) Tryd.underlying115 (by kernel_rfl)
  (opensFsB_cons rfl (by kernel_rfl) (OpensB.of (opens_string Tryd.underlying9)) (opensFsB_last rfl (by kernel_rfl) (OpensB.of (opens_int Tryd.underlying113))))) (fun _ _ => trivial) (fun _ => by omega)
theorem sum_ones {α : Type} (l : List α) : (l.map fun _ => 3).sum = l.length * 3 := by rw [List.map_const', List.sum_replicate_nat]
theorem sum_dots : ∀ l : List S77, 3 * Bld.dots l ≤ (l.map fun p => 4 * p.f1.length + 3).sum
 | [] => by simp [Bld.dots]
 | p :: l => by
  have := sum_dots l; simp only [Bld.dots, List.map_cons, List.sum_cons] at this ⊢; omega
abbrev GY := List S112 × List S115 × List S77
theorem opensGram : OpensB Tryd.prog 51 (Kd.iso (Kd.pair (Kd.slice 112 k112) (Kd.pair (Kd.slice 115 k115) (Kd.slice 77 k77))) (fun y : GY => y)) (fun _ => True) (fun y => y.1.length * 3 + y.2.1.length * 3 + 3 * Bld.dots y.2.2) :=
 OpensB.imp (opensB_struct (fun y : GY => y) (fun y => y) (fun _ => rfl) Tryd.underlying51 (by kernel_rfl)
  (opensFsB_cons rfl (by kernel_rfl) (opensB_slice Tryd.underlying47 (by kernel_rfl) (B := 24) (by kernel_rfl) opens112)
   (opensFsB_cons rfl (by kernel_rfl) (opensB_slice Tryd.underlying48 (by kernel_rfl) (B := 24) (by kernel_rfl) opens115)
    (opensFsB_last rfl (by kernel_rfl) (opensB_slice Tryd.underlying49 (by kernel_rfl) (B := 32) (by kernel_rfl) opens77))))) (fun _ _ => trivial) (fun y => by
  have h1 := sum_ones y.1; have h2 := sum_ones y.2.1; have h3 := sum_dots y.2.2; omega)
end Gram
end Go.Proofs.YtcijanmckhlpiaaDoor
