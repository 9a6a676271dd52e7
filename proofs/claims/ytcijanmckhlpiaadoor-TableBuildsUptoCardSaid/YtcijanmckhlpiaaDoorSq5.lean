-- Texts of this seat, cut to what is used and merged (by shake.py).
import Derived.Test.YtcijanmckhlpiaaDoorSq4
set_option linter.unusedVariables false
set_option linter.unusedSimpArgs false
namespace Go.Proofs.YtcijanmckhlpiaaDoor
open Go.RowKit Go.Proofs.YtcijanmckhlpiaaDoorW.PrintWords Go.Proofs.YtcijanmckhlpiaaDoorW.PrintLast Go.Proofs.YtcijanmckhlpiaaDoorW.PrintMore Go.Proofs.YtcijanmckhlpiaaDoor.PTableBuilds
namespace Bld
theorem szA (w : World) (o : Obj) : (w.alloc o).heap.size = w.heap.size + 1 := Array.size_push _
theorem two_wrap {i : Nat} (hi : i < 64) : IntKind.u64.wrap ((2 : Int) ^ i) = ((2 ^ i : Nat) : Int) := by
 have h : (2 : Nat) ^ i ≤ 9223372036854775808 := Nat.pow_le_pow_right (by decide) (show i ≤ 63 by omega)
 have e : (2 : Int) ^ i = ((2 ^ i : Nat) : Int) := by simp
 rw [e, IntKind.wrap_u64]; clear e; generalize (2 : Nat) ^ i = a at *; omega
theorem setsC_setF {F : List Nat} {V : List Bool} (hF : F.length = 192) {k : Nat} (hk : k < 192) (x : Nat) : (setsC F V).setIfInBounds k (.int .u64 ((x : Nat) : Int)) = setsC (F.set k x) V := by
 unfold setsC; rw [List.setIfInBounds_toArray, List.set_append_left _ _ (by rw [List.length_map]; omega), List.map_set]
theorem setsC_setV {F : List Nat} {V : List Bool} (hF : F.length = 192) {k : Nat} (b : Bool) : (setsC F V).setIfInBounds (192 + k) (.bool b) = setsC F (V.set k b) := by
 unfold setsC; rw [List.setIfInBounds_toArray, List.set_append_right _ _ (by rw [List.length_map]; omega), List.length_map, hF, show 192 + k - 192 = k by omega, List.map_set]
def initF (n : Nat) : List Nat := (List.range 192).map fun j => if j < n then 2 ^ j else 0
def noV : List Bool := List.replicate 192 false
theorem initF_len (n : Nat) : (initF n).length = 192 := by simp [initF]
theorem initF_set (i : Nat) : (initF i).set i (2 ^ i) = initF (i + 1) := by
 apply List.ext_getElem (by simp [initF])
 intro j h1 h2; simp only [initF, List.length_map, List.length_range] at h2; rw [List.getElem_set]; simp only [initF, List.getElem_map, List.getElem_range]; by_cases h : i = j
 ·subst h; simp
 ·rw [if_neg h]; by_cases h3 : j < i
  ·rw [if_pos h3, if_pos (by omega)]
  ·rw [if_neg h3, if_neg (by omega)]
theorem zero254 : Tryd.zeroCells254 = setsC (initF 0) noV := by kernel_rfl
def setsL (F : List Nat) (V : List Bool) : List Value := F.map (fun (x : Nat) => Value.int .u64 ((x : Nat) : Int)) ++ V.map Value.bool
theorem setsL_len {F : List Nat} {V : List Bool} (hF : F.length = 192) (hV : V.length = 192) : (setsL F V).length = 384 := by simp [setsL, hF, hV]
theorem setsC_size {F : List Nat} {V : List Bool} (hF : F.length = 192) (hV : V.length = 192) : (setsC F V).size = 384 := by simp [setsC, hF, hV]
theorem info254 : (Tryd.prog.info? 254).map (·.size) = some 384 := by kernel_rfl
theorem setsL_one {F : List Nat} {V : List Bool} : ∀ v ∈ setsL F V, v.oneCell' = true := by
 intro v hv; simp only [setsL, List.mem_append, List.mem_map] at hv; rcases hv with ⟨_, _, rfl⟩ | ⟨_, _, rfl⟩ <;> rfl
theorem range_blk {w : World} {b : Nat} {cs : List Value} {t : TypeId} (h : w.heap[b]? = some (Obj.cells cs.toArray t (0, 0))) : w.rangeAt b 0 cs := fun j v hv => by
 rw [Nat.zero_add]; refine (zaa h j).trans ?_; rw [List.getElem?_toArray]; exact hv
theorem info251 : (Tryd.prog.info? 251).map (·.size) = some 192 := by kernel_rfl
theorem info252 : (Tryd.prog.info? 252).map (·.size) = some 192 := by kernel_rfl
theorem range_first {w : World} {b : Nat} {F : List Nat} {V : List Bool} {t : TypeId} (h : w.heap[b]? = some (Obj.cells (setsC F V) t (0, 0))) : w.rangeAt b 0 (firsts F) := fun j v hv => range_blk (cs := setsL F V) h j v (by
 show (firsts F ++ vans V)[j]? = some v; rw [List.getElem?_append_left (List.getElem?_eq_some_iff.1 hv).1]; exact hv)
theorem range_van {w : World} {b : Nat} {F : List Nat} {V : List Bool} {t : TypeId} (hF : F.length = 192) (h : w.heap[b]? = some (Obj.cells (setsC F V) t (0, 0))) : w.rangeAt b 192 (vans V) := fun j v hv => by
 have := range_blk (cs := setsL F V) h (192 + j) v (by
  show (firsts F ++ vans V)[192 + j]? = some v; rw [List.getElem?_append_right (by rw [firsts, List.length_map]; omega), firsts, List.length_map, hF, show 192 + j - 192 = j by omega]
  exact hv)
 rwa [Nat.zero_add] at this
theorem run_storeAll {w : World} {b : Nat} {cs : List Value} {old : Array Value} {t : TypeId} (h : w.heap[b]? = some (Obj.cells old t (0, 0))) (ho : old.size = cs.length) (h1 : ∀ v ∈ cs, v.oneCell' = true) : Sem.run Tryd.prog (storeCells ⟨b, 0, none⟩ cs) w = .ok () (w.setCells b 0 cs) :=
 run_storeCells_cells b 0 cs 0 w (fun j hj => by
  rw [show 0 + 0 + j = j by omega, zaa h j, Array.getElem?_eq_getElem (by omega)]; rfl) (fun j hj => by
  rw [show 0 + 0 + j = j by omega]; exact zae h j) h1
theorem blk_storeAll {w : World} {b : Nat} {cs : List Value} {old : Array Value} {t : TypeId} (h : w.heap[b]? = some (Obj.cells old t (0, 0))) (ho : old.size = cs.length) : (w.setCells b 0 cs).heap[b]? = some (Obj.cells cs.toArray t (0, 0)) := by
 obtain ⟨cur, h3, h4, h5⟩ := setCells_row cs 0 w old h (by omega)
 rw [h3]; have e : cur = cs.toArray := by
  apply Array.toList_inj.1; rw [h5, List.take_zero, List.nil_append, List.drop_eq_nil_of_le (by rw [Array.length_toList]; omega), List.append_nil]
 rw [e]
theorem below_storeAll {w W : World} {b : Nat} (h : Below w.heap.size w W) (hb : w.heap.size ≤ b) (cs : List Value) : Below w.heap.size w (W.setCells b 0 cs) := by
 obtain ⟨e1, e2, e3, e4⟩ := setCells_same b cs 0 W; exact ⟨e1.trans h.os, e2.trans h.tape, e3.trans h.output, by rw [e4]; exact h.size, fun k hk => by rw [setCells_far cs 0 k (by omega)]; exact h.block k hk⟩
theorem far_storeAll {w : World} {b k : Nat} {cs : List Value} {o : Obj} (h : w.heap[k]? = some o) (hk : k ≠ b) : (w.setCells b 0 cs).heap[k]? = some o := by
 rw [setCells_far cs 0 k hk]; exact h
abbrev FV := List Nat × List Bool
def stepP (T : Nat) (s : FV) (p : S77) : FV := if p.f0 < 0 then s else (s.1.set (T + p.f0.toNat) (fst s.1 (T + p.f0.toNat) ||| (ofS s.1 s.2 0 p.f1).1), s.2.set (T + p.f0.toNat) (van s.2 (T + p.f0.toNat) || (ofS s.1 s.2 0 p.f1).2))
def passP (T : Nat) (ps : List S77) (s : FV) : FV := ps.foldl (stepP T) s
def solveN (T : Nat) (ps : List S77) : Nat → FV → Option FV
 | 0, _ => none
 | k + 1, s => if passP T ps s = s then some s else solveN T ps k (passP T ps s)
structure Fit (s : FV) : Prop where
 len : s.1.length = 192
 lenV : s.2.length = 192
 lt : ∀ x ∈ s.1, x < zbi
theorem Fit.step {T : Nat} {s : FV} (h : Fit s) (p : S77) : Fit (stepP T s p) := by
 unfold stepP
 split
 ·exact h
 ·refine ⟨by rw [List.length_set]; exact h.len, by rw [List.length_set]; exact h.lenV, fun x hx => ?_⟩
  rcases List.mem_or_eq_of_mem_set hx with hx | hx
  ·exact h.lt x hx
  ·rw [hx]; exact or_lt (fst_lt h.lt _) (ofS_lt h.lt _ _ (by decide))
theorem Fit.init (n : Nat) (hn : n ≤ 64) : Fit (initF n, noV) := ⟨initF_len n, List.length_replicate, fun x hx => by
 simp only [initF, List.mem_map, List.mem_range] at hx; obtain ⟨j, hj, rfl⟩ := hx
 split
 ·exact Nat.pow_lt_pow_right (by decide) (show j < 64 by omega)
 ·decide⟩
set_option maxRecDepth 100000 in
set_option maxHeartbeats 4000000 in
theorem solve_any (A : Option Addr) (c : Nat) (l : List S112) (B : Option Addr) (d : Nat) (m : List S115) (C : Option Addr) (e : Nat) (ps : List S77) (w : World)
  (hrA : k112.C w A l.length l) (hrB : k115.C w B m.length m) (hrC : k77.C w C ps.length ps) (hl : l.length ≤ 64) (hm : m.length ≤ 128) (hz : ps.length ≤ 1048576) (hsy : ∀ p ∈ ps, p.f0 < m.length ∧ p.f1.length ≤ 1048576 ∧ ∀ r ∈ p.f1, 0 ≤ r.f0 ∧ r.f0 < 192) (k : Nat) (s : FV) (hk : solveN l.length ps k (initF l.length, noV) = some s) :
  Calls Tryd.prog 119 #[.agg #[.slice A l.length c, .slice B m.length d, .slice C ps.length e]] w fun e w' => e = .returned (.agg (setsL s.1 s.2).toArray) ∧ Below w.heap.size w w' := by
 have HK0 := Lib.hid hk; have HSY := Lib.hid hsy; have HFT := Lib.hid (Fit.init l.length hl); clear hk hsy; have HA := Lib.hid hrA; have HB := Lib.hid hrB; have HC := Lib.hid hrC; clear hrA hrB hrC
 go_enter Tryd.func119, Tryd.ntmps119
 go_wp2_with fail
 rw [zero254]; have HW0 := Lib.hid (zac (zac (zac (Below.refl w.heap.size w) (.cells #[.slice A l.length c, .slice B m.length d, .slice C ps.length e] 51)) (.cells (setsC (initF 0) noV) 254)) (.cells (setsC (initF 0) noV) 254)); have b1 := zad (zad (zau w (.cells #[.slice A l.length c, .slice B m.length d, .slice C ps.length e] 51)) (.cells (setsC (initF 0) noV) 254)) (.cells (setsC (initF 0) noV) 254); have b2 := zad (zau (w.alloc (.cells #[.slice A l.length c, .slice B m.length d, .slice C ps.length e] 51)) (.cells (setsC (initF 0) noV) 254)) (.cells (setsC (initF 0) noV) 254); have b3 := zau ((w.alloc (.cells #[.slice A l.length c, .slice B m.length d, .slice C ps.length e] 51)).alloc (.cells (setsC (initF 0) noV) 254)) (.cells (setsC (initF 0) noV) 254); rw [show (w.alloc (.cells #[.slice A l.length c, .slice B m.length d, .slice C ps.length e] 51)).heap.size = w.heap.size + 1 from szA _ _] at b2; rw [show ((w.alloc (.cells #[.slice A l.length c, .slice B m.length d, .slice C ps.length e] 51)).alloc (.cells (setsC (initF 0) noV) 254)).heap.size = w.heap.size + 1 + 1 from by rw [szA, szA]] at b3
 have HG1 := Lib.hid b1; have HR1 := Lib.hid b2; have HS1 := Lib.hid b3; clear b1 b2 b3
 go_loopw [14] (fun v w' => ∃ i : Nat, v = .int .i64 (i : Int) ∧ i ≤ l.length ∧ Hid (Below w.heap.size w w') ∧ Hid (w'.heap[w.heap.size]? = some (Obj.cells #[.slice A l.length c, .slice B m.length d, .slice C ps.length e] 51 (0, 0))) ∧ Hid (w'.heap[w.heap.size + 1]? = some (Obj.cells (setsC (initF 0) noV) 254 (0, 0))) ∧ Hid (w'.heap[w.heap.size + 1 + 1]? = some (Obj.cells (setsC (initF i) noV) 254 (0, 0)))) (fun v _ => l.length - (intOf v).toNat)
 case atStart => exact ⟨0, rfl, Nat.zero_le _, HW0, HG1, HR1, HS1⟩
 case round =>
  clear HW0 HG1 HR1 HS1; obtain ⟨i, rfl, hi, HW, HG, HR, HS⟩ := hrel; by_cases hil : i < l.length
  ·have hib : decide ((i : Int) < (l.length : Int)) = true := decide_eq_true (by omega)
   have hi0 : (0 : Int) ≤ (i : Int) := by omega
   have hi1 : (i : Int) < 192 := by omega
   have hi2 : decide ((i : Int) < 64) = true := decide_eq_true (by omega)
   have hiw : IntKind.i64.wrap ((i : Int) + 1) = (i : Int) + 1 := IntWalk.i64_in _ (by omega)
   have hs0 := zaa HS.out i; have hs1 := zae HS.out i; rw [setsC_first (initF_len i) (by omega)] at hs0
   have htw := two_wrap (show i < 64 by omega)
   obtain ⟨t, ht⟩ : ∃ t : Nat, 2 ^ i = t := ⟨_, rfl⟩; rw [ht] at htw; have HT := Lib.hid ht; clear ht
   go_wp2_with fail
   go_roundw
   case rel => exact ⟨i + 1, by rw [Int.natCast_add]; rfl, by omega, Lib.hid (zaf HW.out (by omega)), Lib.hid (zar HG.out (show w.heap.size ≠ w.heap.size + 1 + 1 by omega) _), Lib.hid (zar HR.out (show w.heap.size + 1 ≠ w.heap.size + 1 + 1 by omega) _), Lib.hid (zat HS.out i _ (by rw [setsC_setF (initF_len i) (by omega), ← HT.out, initF_set]))⟩
   case measure => simp only [intOf]; omega
  ·have hib : decide ((i : Int) < (l.length : Int)) = false := decide_eq_false (by omega)
   have hie : i = l.length := by omega
   subst hie
   go_wp2_with fail
   go_loopg [] k (fun kq w' => ∃ q : FV, Hid (solveN l.length ps kq q = some s) ∧ Hid (kq ≤ k) ∧ Hid (Fit q) ∧ Hid (Below w.heap.size w w') ∧ Hid (w'.heap[w.heap.size]? = some (Obj.cells #[.slice A l.length c, .slice B m.length d, .slice C ps.length e] 51 (0, 0))) ∧ Hid (w'.heap[w.heap.size + 1]? = some (Obj.cells (setsC (initF 0) noV) 254 (0, 0))) ∧ Hid (w'.heap[w.heap.size + 1 + 1]? = some (Obj.cells (setsC q.1 q.2) 254 (0, 0))))
   case atStart => exact ⟨_, HK0, Lib.hid (Nat.le_refl _), HFT, HW, HG, HR, HS⟩
   case round =>
    clear HK0 HFT HW HG HR HS; obtain ⟨q, HK, HK1, HFT, HW, HG, HR, HS⟩ := hrel; have hrg : wr.rangeAt (w.heap.size + 1 + 1) 0 (setsL q.1 q.2) := range_blk HS.out; have hin : (Tryd.prog.info? 254).map (·.size) = some (setsL q.1 q.2).length := by rw [setsL_len HFT.out.len HFT.out.lenV]; exact info254
    have HRG := Lib.hid hrg; have HIN := Lib.hid hin; clear hrg hin
    go_wp2_with (refine wp_load_mid 254 (.tmp 3) rfl (w.heap.size + 1 + 1) 0 rfl (setsL q.1 q.2) _ HRG.out Tryd.underlying254 rfl HIN.out ?_)
    refine wp_load_mid 254 (.tmp 3) rfl (w.heap.size + 1 + 1) 0 rfl (setsL q.1 q.2) _ HRG.out Tryd.underlying254 rfl HIN.out ?_; have hlen := setsL_len HFT.out.len HFT.out.lenV
    go_wp2_with fail
    have hnew := zau wr (.cells Tryd.zeroCells254 254); have hsz : Tryd.zeroCells254.size = (setsL q.1 q.2).length := by rw [zero254, hlen]; decide
    have HLT := zba HS.out; rw [run_storeAll hnew hsz setsL_one]; have HN := Lib.hid (blk_storeAll hnew hsz); have HG2 := Lib.hid (far_storeAll (cs := setsL q.1 q.2) (zad HG.out (.cells Tryd.zeroCells254 254)) (show w.heap.size ≠ wr.heap.size by omega))
    have HR2 := Lib.hid (far_storeAll (cs := setsL q.1 q.2) (zad HR.out (.cells Tryd.zeroCells254 254)) (show w.heap.size + 1 ≠ wr.heap.size by omega))
    have HS2 := Lib.hid (far_storeAll (cs := setsL q.1 q.2) (zad HS.out (.cells Tryd.zeroCells254 254)) (show w.heap.size + 1 + 1 ≠ wr.heap.size by omega))
    have HW2 := Lib.hid (below_storeAll (zac HW.out (.cells Tryd.zeroCells254 254)) HW.out.size (setsL q.1 q.2)); have hnz : w.heap.size + 1 + 1 < wr.heap.size := HLT; clear hnew hsz hlen HG HR HS HW HRG HIN HLT; generalize hgb : wr.heap.size = nb at *; generalize (wr.alloc (.cells Tryd.zeroCells254 254)).setCells nb 0 (setsL q.1 q.2) = W2 at *; have hg0 := zaa HG2.out 0; have hg1 := zaa HG2.out 1; have hg2 := zaa HG2.out 2; simp at hg0 hg1 hg2
    go_wp2_with fail
    clear hg0 hg1 hg2; have HP0 : Hid (passP l.length (ps.drop 0) q = passP l.length ps q) := Lib.hid (by rw [List.drop_zero])
    go_loopw [27] (fun v w' => ∃ (j : Nat) (x : FV), v = .int .i64 (j : Int) ∧ j ≤ ps.length ∧ Hid (passP l.length (ps.drop j) x = passP l.length ps q) ∧ Hid (Fit x) ∧ Hid (Below w.heap.size w w') ∧ Hid (w'.heap[w.heap.size]? = some (Obj.cells #[.slice A l.length c, .slice B m.length d, .slice C ps.length e] 51 (0, 0))) ∧ Hid (w'.heap[w.heap.size + 1]? = some (Obj.cells (setsC (initF 0) noV) 254 (0, 0))) ∧ Hid (w'.heap[w.heap.size + 1 + 1]? = some (Obj.cells (setsC q.1 q.2) 254 (0, 0))) ∧ Hid (w'.heap[nb]? = some (Obj.cells (setsC x.1 x.2) 254 (0, 0)))) (fun v _ => ps.length - (intOf v).toNat)
    case atStart => exact ⟨0, q, rfl, Nat.zero_le _, HP0, HFT, HW2, HG2, HR2, HS2, HN⟩
    case round =>
     clear HP0 HW2 HG2 HR2 HS2 HN; obtain ⟨j, x, rfl, hj, HP, HFX, HW, HG, HR, HS, HN⟩ := hrel; by_cases hjl : j < ps.length
     ·obtain ⟨adp, Ap, cp, rfl, g0, g1, hcp, hrp⟩ := at_T77 (Kd.zav HC.out HW.out) (j : Int) (by omega) (by omega)
      have hjb : decide ((j : Int) < (ps.length : Int)) = true := decide_eq_true (by omega)
      have hj0 : (0 : Int) ≤ (j : Int) := by omega
      have hj1 : (j : Int) < (ps.length : Int) := by omega
      have hjw : IntKind.i64.wrap ((j : Int) + 1) = (j : Int) + 1 := IntWalk.i64_in _ (by omega)
      rw [Int.toNat_natCast] at g0 g1; have hst : passP l.length (ps.drop j) x = passP l.length (ps.drop (j + 1)) (stepP l.length x (zal ps (j : Int))) := by
       rw [List.drop_eq_getElem_cons hjl]; have e1 : zal ps (j : Int) = ps[j] := by unfold zal; rw [Int.toNat_natCast, List.getD_eq_getElem?_getD, List.getElem?_eq_getElem hjl]; rfl
       rw [e1]; rfl
      rw [HP.out] at hst; obtain ⟨hp1, hp2, hp3⟩ := HSY.out (zal ps (j : Int)) (by
       have e1 : zal ps (j : Int) = ps[j] := by unfold zal; rw [Int.toNat_natCast, List.getD_eq_getElem?_getD, List.getElem?_eq_getElem hjl]; rfl
       rw [e1]; exact List.getElem_mem _)
      generalize zal ps (j : Int) = p at *; obtain ⟨p0, p1⟩ := p; simp only at g0 g1 hcp hrp hp1 hp2 hp3; have HST := Lib.hid hst; have HP3 := Lib.hid hp3; have HRP := Lib.hid hrp; have hg0 := zaa HG.out 0; simp at hg0; clear hst hp3 hrp HP; by_cases hneg : p0 < 0
      ·have hnb : decide (p0 < 0) = true := decide_eq_true hneg
       go_wp2_with fail
       go_roundw
       case rel => exact ⟨j + 1, x, by rw [Int.natCast_add]; rfl, by omega, Lib.hid (by rw [HST.out]; unfold stepP; rw [if_pos hneg]), HFX, Lib.hid (zac HW.out _), Lib.hid (zad HG.out _), Lib.hid (zad HR.out _), Lib.hid (zad HS.out _), Lib.hid (zad HN.out _)⟩
       case measure => simp only [intOf]; omega
      ·have hnb : decide (p0 < 0) = false := decide_eq_false hneg; obtain ⟨n, rfl⟩ := Int.eq_ofNat_of_zero_le (show 0 ≤ p0 by omega)
       have hgl := zba HG.out; have hnl := zba HN.out; have hga := zaa (zad HG.out (.cells #[.int .i64 (n : Int), .slice Ap p1.length cp] 77)) 0; simp at hga; have hxw : IntKind.i64.wrap ((l.length : Int) + (n : Int)) = ((l.length + n : Nat) : Int) := by rw [Int.natCast_add]; exact IntWalk.i64_in _ (by omega)
       have HW3 := Lib.hid (zac HW.out (.cells #[.int .i64 (n : Int), .slice Ap p1.length cp] 77)); have HG3 := Lib.hid (zad HG.out (.cells #[.int .i64 (n : Int), .slice Ap p1.length cp] 77)); have HR3 := Lib.hid (zad HR.out (.cells #[.int .i64 (n : Int), .slice Ap p1.length cp] 77)); have HS3 := Lib.hid (zad HS.out (.cells #[.int .i64 (n : Int), .slice Ap p1.length cp] 77)); have HN3 := Lib.hid (zad HN.out (.cells #[.int .i64 (n : Int), .slice Ap p1.length cp] 77)); have HOF := Lib.hid (of_any nb x.1 x.2 Ap cp p1 (wr.alloc (.cells #[.int .i64 (n : Int), .slice Ap p1.length cp] 77)) HFX.out.len HFX.out.lenV HFX.out.lt HN3.out (Kd.zav HRP.out (zac (Below.refl _ _) _)) (by omega) HP3.out)
       go_wp2_with fail
       refine HOF.out.mono ?_; rintro e W3 ⟨rfl, hbel⟩; have HW4 := Lib.hid (zam HW3.out hbel); have HG4 := Lib.hid (zak HG3.out hbel); have HR4 := Lib.hid (zak HR3.out hbel); have HS4 := Lib.hid (zak HS3.out hbel); have HN4 := Lib.hid (zak HN3.out hbel); clear hbel HW HG HR HS HN HW3 HG3 HR3 HS3 HN3 HOF hgl hnl hga hg0 g0 g1; have hxl : l.length + n < 192 := by omega
       generalize hxx : l.length + n = y at *; have c0 : W3.cell? ⟨nb, y, none⟩ = some (.int .u64 ((fst x.1 y : Nat) : Int)) := (zaa HN4.out y).trans (setsC_first HFX.out.len hxl); have c1 : W3.cell? ⟨nb, 192 + y, none⟩ = some (.bool (van x.2 y)) := (zaa HN4.out (192 + y)).trans (setsC_van HFX.out.len HFX.out.lenV hxl); have f0 := zae HN4.out y; have f1 := zae HN4.out (192 + y); have hor := u64_or_nat (fst x.1 y) (ofS x.1 x.2 0 p1).1 (fst_lt HFX.out.lt y) (ofS_lt HFX.out.lt p1 0 (by decide))
       have hxi : ((l.length : Int) + (n : Int)) = ((y : Nat) : Int) := by omega
       have hnb2 : w.heap.size ≤ nb := by omega
       have hFS : Fit (stepP l.length x ⟨(n : Int), p1⟩) := HFX.out.step _; have hse : stepP l.length x ⟨(n : Int), p1⟩ = (x.1.set y (fst x.1 y ||| (ofS x.1 x.2 0 p1).1), x.2.set y (van x.2 y || (ofS x.1 x.2 0 p1).2)) := by
        unfold stepP; rw [if_neg (by show ¬ ((n : Int) < 0); omega)]
        simp only [Int.toNat_natCast, hxx]
       have HSE := Lib.hid hse; have HFS := Lib.hid hFS; clear hse hFS hxx; cases hv : van x.2 y with
       | true =>
        rw [hv] at c1
        go_wp2_with fail
        go_roundw
        case rel => exact ⟨j + 1, _, by rw [Int.natCast_add]; rfl, by omega, Lib.hid HST.out.symm, HFS, Lib.hid (zaf (zaf HW4.out hnb2) hnb2), Lib.hid (zar (zar HG4.out (show w.heap.size ≠ nb by omega) _) (show w.heap.size ≠ nb by omega) _), Lib.hid (zar (zar HR4.out (show w.heap.size + 1 ≠ nb by omega) _) (show w.heap.size + 1 ≠ nb by omega) _), Lib.hid (zar (zar HS4.out (show w.heap.size + 1 + 1 ≠ nb by omega) _) (show w.heap.size + 1 + 1 ≠ nb by omega) _), Lib.hid (by
         rw [HSE.out, hv]; exact zat (zat HN4.out y _ (setsC_setF HFX.out.len hxl _)) (192 + y) _ (setsC_setV (by rw [List.length_set]; exact HFX.out.len) _))⟩
        case measure => simp only [intOf]; omega
       | false =>
        rw [hv] at c1
        go_wp2_with fail
        go_roundw
        case rel => exact ⟨j + 1, _, by rw [Int.natCast_add]; rfl, by omega, Lib.hid HST.out.symm, HFS, Lib.hid (zaf (zaf HW4.out hnb2) hnb2), Lib.hid (zar (zar HG4.out (show w.heap.size ≠ nb by omega) _) (show w.heap.size ≠ nb by omega) _), Lib.hid (zar (zar HR4.out (show w.heap.size + 1 ≠ nb by omega) _) (show w.heap.size + 1 ≠ nb by omega) _), Lib.hid (zar (zar HS4.out (show w.heap.size + 1 + 1 ≠ nb by omega) _) (show w.heap.size + 1 + 1 ≠ nb by omega) _), Lib.hid (by
         rw [HSE.out, hv]; exact zat (zat HN4.out y _ (setsC_setF HFX.out.len hxl _)) (192 + y) _ (setsC_setV (by rw [List.length_set]; exact HFX.out.len) _))⟩
        case measure => simp only [intOf]; omega
     ·have hjb : decide ((j : Int) < (ps.length : Int)) = false := decide_eq_false (by omega)
      have hje : j = ps.length := by omega
      have hxe : x = passP l.length ps q := by
       have h := HP.out; rw [hje, List.drop_length] at h; exact h
      have HXE := Lib.hid hxe; have r1 : wr.rangeAt nb 0 (firsts x.1) := range_first HN.out; have r2 : wr.rangeAt nb 192 (vans x.2) := range_van HFX.out.len HN.out; have r3 : wr.rangeAt (w.heap.size + 1 + 1) 0 (firsts q.1) := range_first HS.out; have r4 : wr.rangeAt (w.heap.size + 1 + 1) 192 (vans q.2) := range_van HFT.out.len HS.out; have R1 := Lib.hid r1; have R2 := Lib.hid r2; have R3 := Lib.hid r3; have R4 := Lib.hid r4; have i1 : Hid ((Tryd.prog.info? 251).map (·.size) = some (firsts x.1).length) := Lib.hid (by rw [firsts, List.length_map, HFX.out.len]; exact info251)
      have i3 : Hid ((Tryd.prog.info? 251).map (·.size) = some (firsts q.1).length) := Lib.hid (by rw [firsts, List.length_map, HFT.out.len]; exact info251)
      have i2 : Hid ((Tryd.prog.info? 252).map (·.size) = some (vans x.2).length) := Lib.hid (by rw [vans, List.length_map, HFX.out.lenV]; exact info252)
      have i4 : Hid ((Tryd.prog.info? 252).map (·.size) = some (vans q.2).length) := Lib.hid (by rw [vans, List.length_map, HFT.out.lenV]; exact info252)
      clear r1 r2 r3 r4 hxe HP
      go_wp2_with fail
      refine wp_load_mid 251 (.tmp 65) rfl nb 0 rfl (firsts x.1) _ R1.out Tryd.underlying251 rfl i1.out ?_
      go_wp2_with fail
      refine wp_load_mid 251 (.tmp 67) rfl (w.heap.size + 1 + 1) 0 rfl (firsts q.1) _ R3.out Tryd.underlying251 rfl i3.out ?_
      go_wp2_with fail
      rw [eq_firsts x.1 q.1 HFX.out.len HFT.out.len]; have hin : (Tryd.prog.info? 254).map (·.size) = some (setsL q.1 q.2).length := by rw [setsL_len HFT.out.len HFT.out.lenV]; exact info254
      have HIN := Lib.hid hin; have hinx : (Tryd.prog.info? 254).map (·.size) = some (setsL x.1 x.2).length := by rw [setsL_len HFX.out.len HFX.out.lenV]; exact info254
      have HINX := Lib.hid hinx; have HSZ1 : Hid ((setsC (initF 0) noV).size = (setsL q.1 q.2).length) := Lib.hid (by rw [setsL_len HFT.out.len HFT.out.lenV]; decide)
      have HSZ2 : Hid ((setsC q.1 q.2).size = (setsL x.1 x.2).length) := Lib.hid (by rw [setsL_len HFX.out.len HFX.out.lenV]; exact setsC_size HFT.out.len HFT.out.lenV)
      have hrg : wr.rangeAt (w.heap.size + 1 + 1) 0 (setsL q.1 q.2) := range_blk HS.out; have HRG := Lib.hid hrg; have hrx : wr.rangeAt nb 0 (setsL x.1 x.2) := range_blk HN.out; have HRX := Lib.hid hrx; clear hin hinx hrg hrx; have HNE : x ≠ q → Hid (solveN l.length ps (gk - 1) x = some s ∧ 0 < gk) := fun hne => by
       have hh := HK.out; cases gk with
       | zero => simp [solveN] at hh
       | succ g =>
        refine Lib.hid ⟨?_, Nat.succ_pos _⟩; unfold solveN at hh; rw [← HXE.out, if_neg hne] at hh; exact hh
      have HEQ : x = q → Hid (q = s) := fun he => by
       have hh := HK.out; cases gk with
       | zero => simp [solveN] at hh
       | succ g =>
        unfold solveN at hh; rw [← HXE.out, if_pos he] at hh; exact Lib.hid (Option.some.inj hh)
      have HNEH := Lib.hid HNE; have HEQH := Lib.hid HEQ; clear HNE HEQ; by_cases h1 : x.1 = q.1
      ·have hd1 : decide (x.1 = q.1) = true := decide_eq_true h1; have H1 := Lib.hid h1; clear h1; rw [hd1]; clear hd1; go_simp
       go_wp2_with fail
       refine wp_load_mid 252 (.tmp 71) rfl nb 192 rfl (vans x.2) _ R2.out Tryd.underlying252 rfl i2.out ?_
       go_wp2_with fail
       refine wp_load_mid 252 (.tmp 73) rfl (w.heap.size + 1 + 1) 192 rfl (vans q.2) _ R4.out Tryd.underlying252 rfl i4.out ?_
       go_wp2_with fail
       rw [eq_vans x.2 q.2 HFX.out.lenV HFT.out.lenV]; by_cases h2 : x.2 = q.2
       ·have hd2 : decide (x.2 = q.2) = true := decide_eq_true h2; have H2 := Lib.hid h2; clear h2; rw [hd2]; clear hd2; go_simp; have HQ := HEQH.out (Prod.ext H1.out H2.out)
        go_wp2_with fail
        refine wp_load_mid 254 (.tmp 3) rfl (w.heap.size + 1 + 1) 0 rfl (setsL q.1 q.2) _ HRG.out Tryd.underlying254 rfl HIN.out ?_; have hlen := setsL_len HFT.out.len HFT.out.lenV
        go_wp2_with fail
        clear hlen; rw [run_storeAll HR.out HSZ1.out setsL_one]; have HR5 := Lib.hid (range_blk (blk_storeAll HR.out HSZ1.out)); have HW5 := Lib.hid (below_storeAll HW.out (show w.heap.size ≤ w.heap.size + 1 by omega) (setsL q.1 q.2))
        generalize wr.setCells (w.heap.size + 1) 0 (setsL q.1 q.2) = W5 at *
        go_wp2_with fail
        refine bodyPost_ret (v := .agg (setsL q.1 q.2).toArray) (results_wide rfl _ _ _ (w.heap.size + 1) (setsL q.1 q.2) _ rfl HR5.out Tryd.underlying254 rfl HIN.out) rfl ⟨by rw [HQ.out], HW5.out⟩
       ·have hd2 : decide (x.2 = q.2) = false := decide_eq_false h2; have HX := HNEH.out (fun e => h2 (congrArg Prod.snd e))
        clear h2; rw [hd2]; clear hd2; go_simp
        go_wp2_with fail
        refine wp_load_mid 254 (.tmp 5) rfl nb 0 rfl (setsL x.1 x.2) _ HRX.out Tryd.underlying254 rfl HINX.out ?_; have hlen := setsL_len HFX.out.len HFX.out.lenV
        go_wp2_with fail
        clear hlen; rw [run_storeAll HS.out HSZ2.out setsL_one]; have HG6 := Lib.hid (far_storeAll (cs := setsL x.1 x.2) HG.out (show w.heap.size ≠ w.heap.size + 1 + 1 by omega))
        have HR6 := Lib.hid (far_storeAll (cs := setsL x.1 x.2) HR.out (show w.heap.size + 1 ≠ w.heap.size + 1 + 1 by omega))
        have HS6 := Lib.hid (blk_storeAll HS.out HSZ2.out); have HW6 := Lib.hid (below_storeAll HW.out (show w.heap.size ≤ w.heap.size + 1 + 1 by omega) (setsL x.1 x.2))
        have HX1 := Lib.hid HX.out.1; have HX2 : 0 < gk := HX.out.2; clear HX HG HR HS HW; generalize wr.setCells (w.heap.size + 1 + 1) 0 (setsL x.1 x.2) = W6 at *; go_simp
        go_wp2_with fail
        go_roundg (gk - 1)
        case measure => omega
        case rel => exact ⟨x, HX1, Lib.hid (by have := HK1.out; omega), HFX, HW6, HG6, HR6, HS6⟩
      ·have hd1 : decide (x.1 = q.1) = false := decide_eq_false h1; have HX := HNEH.out (fun e => h1 (congrArg Prod.fst e))
       clear h1; rw [hd1]; clear hd1; go_simp
       go_wp2_with fail
       refine wp_load_mid 254 (.tmp 5) rfl nb 0 rfl (setsL x.1 x.2) _ HRX.out Tryd.underlying254 rfl HINX.out ?_; have hlen := setsL_len HFX.out.len HFX.out.lenV
       go_wp2_with fail
       clear hlen; rw [run_storeAll HS.out HSZ2.out setsL_one]; have HG6 := Lib.hid (far_storeAll (cs := setsL x.1 x.2) HG.out (show w.heap.size ≠ w.heap.size + 1 + 1 by omega))
       have HR6 := Lib.hid (far_storeAll (cs := setsL x.1 x.2) HR.out (show w.heap.size + 1 ≠ w.heap.size + 1 + 1 by omega))
       have HS6 := Lib.hid (blk_storeAll HS.out HSZ2.out); have HW6 := Lib.hid (below_storeAll HW.out (show w.heap.size ≤ w.heap.size + 1 + 1 by omega) (setsL x.1 x.2))
       have HX1 := Lib.hid HX.out.1; have HX2 : 0 < gk := HX.out.2; clear HX HG HR HS HW; generalize wr.setCells (w.heap.size + 1 + 1) 0 (setsL x.1 x.2) = W6 at *; go_simp
       go_wp2_with fail
       go_roundg (gk - 1)
       case measure => omega
       case rel => exact ⟨x, HX1, Lib.hid (by have := HK1.out; omega), HFX, HW6, HG6, HR6, HS6⟩
end Bld
end Go.Proofs.YtcijanmckhlpiaaDoor
