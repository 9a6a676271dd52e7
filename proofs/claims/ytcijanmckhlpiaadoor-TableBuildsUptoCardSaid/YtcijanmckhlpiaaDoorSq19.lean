-- Texts of this seat, cut to what is used and merged (by shake.py).
import Derived.Test.YtcijanmckhlpiaaDoorSq4
import Derived.Test.YtcijanmckhlpiaaDoorSq13
import Derived.Test.YtcijanmckhlpiaaDoorSq17
import Derived.Test.YtcijanmckhlpiaaDoorSq18
set_option linter.unusedVariables false
set_option linter.unusedSimpArgs false
namespace Go.Proofs.YtcijanmckhlpiaaDoor
open Go.RowKit Go.Proofs.YtcijanmckhlpiaaDoorW.PrintWords Go.Proofs.YtcijanmckhlpiaaDoorW.PrintLast Go.Proofs.YtcijanmckhlpiaaDoorW.PrintMore Go.Proofs.YtcijanmckhlpiaaDoor.PTableBuilds
namespace Doc
open Bld
def flD (T M i : Nat) (p : S77) : Bool := (decide (i = 0) && !((p.f0 == -1) && (decide (p.f1.length = 1) && ((zax p.f1 0).f0 == (T : Int))))) || (decide (0 < i) && (decide (p.f0 < 0) || decide (p.f0 ≥ (M : Int))))
def rowsR (T M : Nat) : Nat → List S77 → Bool
 | _, [] => true
 | i, p :: ps => !(flD T M i p) && (p.f1.all (refB T M) && rowsR T M (i + 1) ps)
theorem rowsR_pos {T M : Nat} : ∀ (ps : List S77) (i : Nat), 0 < i → rowsR T M i ps = rowsB T M i ps
 | [], _, _ => rfl
 | p :: ps, i, hi => by
  unfold rowsR rowsB prodB flD; rw [rowsR_pos ps (i + 1) (Nat.succ_pos _), decide_eq_false (show ¬ i = 0 by omega), decide_eq_true hi, Bool.false_and, Bool.false_or, Bool.true_and, Bool.and_assoc]
theorem rowsR_zero {T M : Nat} {ps : List S77} (h : ps.length ≠ 0) : rowsR T M 0 ps = (rowsB T M 0 ps && zeroB T ps) := by
 cases ps with
 | nil => exact absurd rfl h
 | cons p ps =>
  have e : zal (p :: ps) 0 = p := rfl; unfold rowsR rowsB prodB flD zeroB; rw [rowsR_pos ps 1 (by decide), e, decide_eq_true (show (0 : Nat) = 0 from rfl), decide_eq_false (show ¬ 0 < 0 by decide), Bool.false_and, Bool.or_false, Bool.true_and, Bool.not_not, Bool.not_false, Bool.true_and]
  generalize ((p.f0 == -1) && (decide (p.f1.length = 1) && ((zax p.f1 0).f0 == (T : Int)))) = z; cases z <;> simp
theorem dright_l1 (l : List S112) (m : List S115) (ps : List S77) (x3 x38 : Int) (hT : l.length ≤ 64) (hM : m.length ≤ 128) (row : List S110) (hrow : row.length ≤ 9223372036854775807) (NX : Bool) (hn : Ev (fun k => trellisref12_Right.l0 k (wrap64 (x3 + 1)) l m ps) NX) :
  ∀ (d i : Nat), row.length - i = d → i ≤ row.length → Ev (fun k => trellisref12_Right.l1 k x3 (i : Int) l m ps x38 row) ((row.drop i).all (refB l.length m.length) && NX) := by
 intro d
 induction d with
 | zero =>
  intro i hd hi; rw [List.drop_eq_nil_of_le (by omega)]
  simp only [List.all_nil, Bool.true_and]; exact Ev.step (fun k => by simp only [trellisref12_Right.l1]; rw [if_neg (by omega)]) hn
 | succ d ih =>
  intro i hd hi; have hlt : i < row.length := by omega
  have h := ih (i + 1) (by omega) (by omega)
  have hw : wrap64 ((l.length : Int) + (m.length : Int)) = (l.length : Int) + m.length := by unfold wrap64; omega
  rw [List.drop_eq_getElem_cons hlt]; simp only [List.all_cons, refB]; have hs : ∀ k, trellisref12_Right.l1 (k + 1) x3 (i : Int) l m ps x38 row = (if (row[i]).f0 < 1 then some false else if (row[i]).f0 ≥ (l.length : Int) + m.length then some false else trellisref12_Right.l1 k x3 ((i + 1 : Nat) : Int) l m ps x38 row) := by
   intro k; simp only [trellisref12_Right.l1]; rw [if_pos (by omega), if_pos (by omega), rdT110_nat row i hlt, w64s (by omega), hw]
  refine Ev.step hs ?_; by_cases h1 : (row[i]).f0 < 1
  ·simp only [if_pos h1, decide_eq_true h1, Bool.not_true, Bool.false_and]; exact Ev.now _
  ·by_cases h2 : (row[i]).f0 ≥ (l.length : Int) + m.length
   ·simp only [if_neg h1, if_pos h2, decide_eq_true h2, Bool.not_true, Bool.and_false, Bool.false_and]; exact Ev.now _
   ·simp only [if_neg h1, if_neg h2, decide_eq_false h1, decide_eq_false h2, Bool.not_false, Bool.true_and]; exact h
theorem dright_l0 (l : List S112) (m : List S115) (ps : List S77) (hT : l.length ≤ 64) (hM : m.length ≤ 128) (hps : ps.length ≤ 9223372036854775806) (hrow : ∀ p ∈ ps, p.f1.length ≤ 9223372036854775807) :
  ∀ (d i : Nat), ps.length - i = d → i ≤ ps.length → Ev (fun k => trellisref12_Right.l0 k (i : Int) l m ps) (rowsR l.length m.length i (ps.drop i)) := by
 intro d
 induction d with
 | zero =>
  intro i hd hi; rw [List.drop_eq_nil_of_le (by omega)]
  refine Ev.step (f := fun _ => some true) (fun k => ?_) (Ev.now _)
  simp only [trellisref12_Right.l0]; rw [if_neg (by omega)]
 | succ d ih =>
  intro i hd hi; have hlt : i < ps.length := by omega
  have h := ih (i + 1) (by omega) (by omega)
  rw [List.drop_eq_getElem_cons hlt]; simp only [rowsR]; have hl1 := dright_l1 l m ps (i : Int) (ps[i]).f0 hT hM (ps[i]).f1 (hrow _ (List.getElem_mem hlt)) _ (by rw [w64s (by omega)]; exact h) _ 0 rfl (Nat.zero_le _)
  rw [List.drop_zero] at hl1; refine Ev.step (f := fun k => trellisref12_Right.j2 k (i : Int) (flD l.length m.length i (ps[i])) l m ps (ps[i]).f0 (ps[i]).f1) (fun k => ?_) ?_
  ·simp only [trellisref12_Right.l0]; rw [if_pos (by omega), if_pos (by omega), rdT77_nat ps i hlt]
   unfold flD; by_cases hi0 : i = 0
   ·subst hi0; have hz : ¬ ((0 : Nat) : Int) > 0 := by omega
    simp only [if_neg hz]; rw [if_pos (show ((0 : Nat) : Int) = 0 from rfl), decide_eq_true trivial, decide_eq_false (show ¬ 0 < 0 by decide), Bool.false_and, Bool.or_false, Bool.true_and]
    by_cases h1 : (ps[0]).f0 = -1
    ·rw [if_pos h1]; by_cases h2 : (ps[0]).f1.length = 1
     ·rw [if_pos (by omega), if_pos (by omega), decide_eq_true h2]
      by_cases h3 : (zax (ps[0]).f1 0).f0 = (l.length : Int)
      ·rw [if_pos h3, h1, h3]; simp
      ·rw [if_neg h3, show ((zax (ps[0]).f1 0).f0 == (l.length : Int)) = false by simpa using h3]; simp
     ·rw [if_neg (by omega), decide_eq_false h2]; simp
    ·rw [if_neg h1, show ((ps[0]).f0 == -1) = false by simpa using h1]; simp
   ·rw [if_neg (by omega), if_pos (by omega), decide_eq_false hi0, decide_eq_true (show 0 < i by omega), Bool.false_and, Bool.false_or, Bool.true_and]
    by_cases hn : (ps[i]).f0 < 0
    ·rw [if_pos hn, decide_eq_true hn]; rfl
    ·rw [if_neg hn, decide_eq_false hn]; rfl
  ·cases hc : flD l.length m.length i (ps[i]) with
   | true => exact Ev.step (f := fun _ => some false) (fun k => by simp only [trellisref12_Right.j2]; rw [if_pos trivial]) (by simpa using Ev.now false)
   | false =>
    simp only [Bool.not_false, Bool.true_and]; refine Ev.step (fun k => ?_) hl1
    simp only [trellisref12_Right.j2]; rw [if_neg (by decide)]
    rfl
theorem dright_ev (l : List S112) (m : List S115) (ps : List S77) (hps : ps.length ≤ 9223372036854775806) (hrow : ∀ p ∈ ps, p.f1.length ≤ 9223372036854775807) : Ev (fun k => trellisref12_Right.f k l m ps) (rightB l.length m.length ps) := by
 unfold rightB; refine Ev.congr (f := fun k => trellisref12_Right.j0 k (!decide (1 ≤ l.length ∧ l.length ≤ 64 ∧ m.length ≤ 128 ∧ ps.length ≠ 0)) l m ps) (fun k => ?_) ?_
 ·unfold trellisref12_Right.f; by_cases h1 : (l.length : Int) < 1
  ·rw [if_pos h1, decide_eq_false (by omega)]; rfl
  ·rw [if_neg h1]; by_cases h2 : (l.length : Int) > 64
   ·rw [if_pos h2, decide_eq_false (by omega)]; rfl
   ·rw [if_neg h2]; by_cases h3 : (m.length : Int) > 128
    ·rw [if_pos h3, decide_eq_false (by omega)]; rfl
    ·rw [if_neg h3]
     congr 1
     by_cases h4 : ps.length = 0
     ·rw [decide_eq_true (p := (ps.length : Int) < 1) (by omega), decide_eq_false (by omega)]; rfl
     ·rw [decide_eq_true (p := 1 ≤ l.length ∧ l.length ≤ 64 ∧ m.length ≤ 128 ∧ ps.length ≠ 0) ⟨by omega, by omega, by omega, h4⟩, decide_eq_false (p := (ps.length : Int) < 1) (by omega)]; rfl
 ·by_cases hc : 1 ≤ l.length ∧ l.length ≤ 64 ∧ m.length ≤ 128 ∧ ps.length ≠ 0
  ·rw [decide_eq_true hc]; obtain ⟨h1, h2, h3, h4⟩ := hc; refine Ev.step (fun k => ?_) (by
    have h := dright_l0 l m ps h2 h3 hps hrow _ 0 rfl (Nat.zero_le _); rw [List.drop_zero, rowsR_zero h4] at h
    simpa using h)
   simp only [trellisref12_Right.j0]; rw [if_neg (by decide)]
  ·rw [decide_eq_false hc]; refine Ev.step (f := fun _ => some false) (fun k => ?_) (by simpa using Ev.now false)
   simp only [trellisref12_Right.j0]; rw [if_pos (by decide)]
structure Gx (w0 W : World) (vs vg vr : Value) (ss : List (List Nat)) (gs : List (List Int)) : Prop where
 below : Below w0.heap.size w0 W
 sets : kSets.R 181 W w0.heap.size tru vs ss
 gos : kGo.R 95 W w0.heap.size (fun k => tru k ∧ some k ≠ vr.ownBlock) vg gs
section
variable {w0 W W1 : World} {vs vg vr v1 : Value} {ss : List (List Nat)} {gs : List (List Int)}
theorem Gx.bel (h : Gx w0 W vs vg vr ss gs) (hb : Below W.heap.size W W1) : Gx w0 W1 vs vg vr ss gs := ⟨zam h.below hb, Kd.zbf h.sets hb, Kd.zbf h.gos hb⟩
theorem Gx.alloc (h : Gx w0 W vs vg vr ss gs) (o : Obj) : Gx w0 (W.alloc o) vs vg vr ss gs := h.bel (zac (Below.refl _ _) o)
theorem Gx.row (h : Gx w0 W vs vg vr ss gs) (hlt : ∀ k, v1.ownBlock = some k → W.heap.size ≤ k) : Gx w0 W vs vg v1 ss gs :=
 ⟨h.below, h.sets, Kd.R_mono (Kd.R_bound h.gos) (fun k hk => ⟨trivial, fun e => by have := hlt k e.symm; have := hk.2.2.1; omega⟩)⟩
theorem Gx.appR (h : Gx w0 W vs vg vr ss gs) {row : List Int} (hg : W.grownBy W1 vr.ownBlock) (hat : v1.ownBlock = vr.ownBlock ∨ ∃ b, v1.ownBlock = some b ∧ W.heap.size ≤ b) (hr : kI.R 3 W w0.heap.size tru vr row) (hb : Below w0.heap.size w0 W1) : Gx w0 W1 vs vg v1 ss gs :=
 ⟨hb, Kd.zbn h.sets hr (by decide) hg, Kd.R_after h.gos hg hat⟩
theorem Gx.appS (h : Gx w0 W vs vg vr ss gs) {ss' : List (List Nat)} (hR : kSets.R 181 W1 w0.heap.size tru v1 ss') (hg : W.grownBy W1 vs.ownBlock) (hb : Below w0.heap.size w0 W1) : Gx w0 W1 v1 vg vr ss' gs :=
 ⟨hb, hR, Kd.zbn h.gos h.sets (by decide) hg⟩
theorem Gx.appG (h : Gx w0 W vs vg vr ss gs) {gs' : List (List Int)} (hR : kGo.R 95 W1 w0.heap.size tru v1 gs') (hg : W.grownBy W1 vg.ownBlock) (hb : Below w0.heap.size w0 W1) : Gx w0 W1 vs v1 (.slice none 0 0) ss gs' :=
 ⟨hb, Kd.zbn h.sets h.gos (by decide) hg, Kd.R_apart_nil hR⟩
end
theorem R_ul {W : World} {B ob N : Nat} {r : List Nat} (hB : B ≤ ob) (h : W.heap[ob]? = some (.cells (ul r) 128 (0, 0))) (hl : r.length = N) (hN : N ≤ 1048576) : kU.R 128 W B tru (.slice (some ⟨ob, 0, none⟩) N N) r := by
 subst hl; refine Kd.R_of_own (enc := fun n : Nat => Value.int .u64 (n : Int)) ?_ (fun _ _ => trivial)
 refine ⟨by rw [encs_length, Nat.mul_one], .inr ⟨ob, r.length, ul r, rfl, hB, h, Nat.le_refl _, by unfold maxLen; omega, by simp [ul], ?_⟩⟩
 unfold encs ul; rw [Nat.mul_one, List.take_of_length_le (by simp)]
theorem info181 : (Tryd.prog.info? 181).map (fun i => (i.zero, i.size, i.bytes)) = some (some (.slice none 0 0), 1, 24) := by kernel_rfl
theorem ixS_miss {r x : List Nat} : ∀ {l : List (List Nat)} {j : Nat}, ixS r (l.take j) = none → l[j]? = some x → x ≠ r → ixS r (l.take (j + 1)) = none
 | y :: l, 0, _, hx, hne => by
  have e : y = x := by simpa using hx
  subst e; show (if y = r then some 0 else (ixS r (l.take 0)).map (· + 1)) = none
  rw [if_neg hne]; rfl
 | y :: l, j + 1, h, hx, hne => by
  replace h : (if y = r then some 0 else (ixS r (l.take j)).map (· + 1)) = none := h
  show (if y = r then some 0 else (ixS r (l.take (j + 1))).map (· + 1)) = none
  split at h
  ·cases h
  ·rename_i hy
   rw [if_neg hy, ixS_miss (l := l) (j := j) (by simpa using h) (by simpa using hx) hne]; rfl
theorem ixS_hit {r : List Nat} : ∀ {l : List (List Nat)} {j : Nat}, ixS r (l.take j) = none → l[j]? = some r → ixS r l = some j
 | y :: l, 0, _, hx => by
  have e : y = r := by simpa using hx
  show (if y = r then some 0 else (ixS r l).map (· + 1)) = some 0
  rw [if_pos e]
 | y :: l, j + 1, h, hx => by
  replace h : (if y = r then some 0 else (ixS r (l.take j)).map (· + 1)) = none := h
  show (if y = r then some 0 else (ixS r l).map (· + 1)) = some (j + 1)
  split at h
  ·cases h
  ·rename_i hy
   rw [if_neg hy, ixS_hit (l := l) (j := j) (by simpa using h) (by simpa using hx)]; rfl
theorem dY_cons {T : Nat} {sp : List S230} {of_ : List (List Nat)} {kd : Nat} {s : List Nat} {y : Nat} {ys : List Nat} {row : List Int} {sets : List (List Nat)} : dY T sp of_ kd s (y :: ys) row sets = if marksOf sp s y s.length = [] then dY T sp of_ kd s ys (row ++ [-1]) sets else match closeD T sp of_ kd (behV sp s y) with
  | none => none
  | some r => match ixS r sets with
   | some n => dY T sp of_ kd s ys (row ++ [(n : Int)]) sets
   | none => if sets.length = 2048 then some none else dY T sp of_ kd s ys (row ++ [(sets.length : Int)]) (sets ++ [r]) := rfl
theorem range_drop {K y : Nat} (h : y < K) : (List.range K).drop y = y :: (List.range K).drop (y + 1) := by
 rw [List.drop_eq_getElem_cons (by rw [List.length_range]; exact h), List.getElem_range]
theorem SetOk.xs {T N : Nat} {X : List Nat} (h : SetOk T N X) (hT : T ≤ 64) : Xs N X := ⟨h.len, fun y hy => Nat.lt_of_lt_of_le (h.lt y hy) (pow64 hT)⟩
set_option maxRecDepth 100000 in
set_option maxHeartbeats 8000000 in
theorem dsets_any (A : Option Addr) (c : Nat) (l : List S112) (B : Option Addr) (d : Nat) (m : List S115) (C : Option Addr) (e : Nat) (ps : List S77) (w : World)
  (hg : GR w A c l B d m C e ps) (hf : Bld.Fair l.length m.length ps) (kr : Nat) (hri : trellisref12_Right.f kr l m ps = some true) (F : List Nat) (V : List Bool) (hF : ∀ x t, (fst F x).testBit t = true ↔ t < l.length ∧ Lead l.length ps x t) (hFL : Lt l.length F)
  (hV : ∀ k, van (nullN l.length ps m.length (List.replicate (l.length + m.length) false)) k = van V k) (hVl : (nullN l.length ps m.length (List.replicate (l.length + m.length) false)).length = l.length + m.length) (hp0 : (zal ps 0).f0 = -1) (hpp : 0 < ps.length) (N : Nat) (hNd : N = dots ps)
  (H : Sp l.length m.length N (zbc F V 0 ps) (zbo m.length ps)) (kl : Nat) (res : Option (List (List Nat) × List (List Int))) (hres : setsD l.length m.length (zbc F V 0 ps) (zbo m.length ps) (64 * N + 1) kl = some res) :
  Calls Tryd.prog 42 #[.agg #[.slice A l.length c, .slice B m.length d, .slice C ps.length e]] w (RetSets w (zbc F V 0 ps) res) := by
 have t1 := hf.t1; have t64 := hf.t64; have m128 := hf.m128; have htot := hf.tot; have hFt : ∀ x ∈ F, x < zbi := fun x hx => Nat.lt_of_lt_of_le (hFL x hx) (pow64 t64)
 have hN20 : N ≤ 1048576 := by omega
 have HG := Lib.hid hg; have HF := Lib.hid hf; have HRI := Lib.hid hri; have HFS := Lib.hid hF; have HFT := Lib.hid hFt; have HV := Lib.hid hV; have HVL := Lib.hid hVl; have HP0 := Lib.hid hp0; have HND := Lib.hid hNd; have HSPX := Lib.hid H; obtain ⟨sp, hsp⟩ : ∃ sp, sp = zbc F V 0 ps := ⟨_, rfl⟩; have HSP := Lib.hid hsp; rw [← hsp] at HSPX hres ⊢; have hS0 : SetOk l.length N (startV N) := ⟨startV_len N, fun x hx => by
  unfold startV at hx; rcases List.mem_or_eq_of_mem_set hx with hx | hx
  ·rw [(List.mem_replicate.1 hx).2]; exact Nat.two_pow_pos _
  ·rw [hx]; exact Nat.one_lt_two_pow (by omega)⟩
 obtain ⟨r0, hr0, hr0o, hr0l⟩ := closeD_of HSPX.out hS0; have hres1 := hres; unfold setsD at hres1; rw [HSPX.out.len, hr0] at hres1; have HGI : Hid (dI l.length m.length sp (zbo m.length ps) (64 * N + 1) kl 0 [r0] [] = some res) := Lib.hid hres1; have HCL0 := Lib.hid hr0; have HS0 := Lib.hid hS0; have HR0O := Lib.hid hr0o; have hbA := zac (Below.refl w.heap.size w) (.cells #[.slice A l.length c, .slice B m.length d, .slice C ps.length e] 51); have HG1 := Lib.hid (hg.below hbA); have HX0 := Lib.hid (zau w (.cells #[.slice A l.length c, .slice B m.length d, .slice C ps.length e] 51)); have HBA := Lib.hid hbA; clear hg hf hri hF hFL hFt hV hVl hp0 hNd H hsp hres hres1 hr0 hr0o hr0l hS0 hbA
 go_enter Tryd.func42, Tryd.ntmps42
 go_wp2_with (go_at_call 70; refine (trellisref12_Right.calls kr A c l B d m C e ps true _ HG1.out.hA HG1.out.cA HG1.out.hB HG1.out.cB HG1.out.hC HG1.out.cC HRI.out).mono ?_; rintro e1 w1 ⟨rfl, hb1⟩; refine Hid.out ?_)
 refine Lib.hid ?_; have HX1 := Lib.hid (zak HX0.out hb1); have HB1 := Lib.hid (zam HBA.out hb1); clear HX0 HBA HG1 hb1; have hg0 := zaa HX1.out 0; have hg1 := zaa HX1.out 1; have hg2 := zaa HX1.out 2; simp at hg0 hg1 hg2
 go_wp2_with (go_at_call 71; refine (dbook_any A c l B d m C e ps _ (HG.out.below HB1.out) HF.out F HFS.out).mono ?_; rintro e2 w3 ⟨b, nb, Af, cf, Aa, ca, rfl, hbk, hb2⟩; refine Hid.out ?_)
 refine Lib.hid ?_; have HX3 := Lib.hid (zak HX1.out hb2); have HB3 := Lib.hid (zam HB1.out hb2); have HD := Lib.hid hbk; clear hg0 hg1 hg2 HX1 HB1 hbk hb2 HRI HG; have HBs := Lib.hid (zac (Below.refl w3.heap.size w3) (.cells #[.int .i64 0, .int .i64 0, .int .i64 0] 178)); have HOF := Lib.hid (of_start (HD.out.below HBs.out) HF.out hpp N HND.out w3.heap.size (zau w3 (.cells #[.int .i64 0, .int .i64 0, .int .i64 0] 178)))
 go_wp2_with (go_at_call 72; refine (HOF.out).mono ?_; rintro e3 w4 ⟨sb, rfl, hb4, hsb, hs4⟩; refine Hid.out ?_)
 refine Lib.hid ?_; have HB4 := Lib.hid (zam HBs.out hb4); have hsb2 : w3.heap.size ≤ sb := Nat.le_trans HBs.out.size hsb; have HS4 := Lib.hid hs4; clear hb4 hs4 HOF HBs hsb; have HCL := Lib.hid (dclosed_any HD.out rfl HF.out F V rfl HFT.out HVL.out HV.out HP0.out sb N HND.out (startV N) r0 (64 * N + 1) (SetOk.xs HS0.out t64) (by rw [← HSP.out]; exact HCL0.out) w4 HB4.out hsb2 HS4.out)
 go_wp2_with (go_at_call 73; refine (HCL.out).mono ?_; rintro e4 w5 ⟨rfl, hbl5, hs5⟩; refine Hid.out ?_)
 refine Lib.hid ?_; have HB5 := Lib.hid (bel_below HB4.out hbl5 hsb2); have HRU := Lib.hid (R_ul (B := w3.heap.size) hsb2 hs5 HR0O.out.len hN20); clear hbl5 hs5 HCL HS4 HB4 HCL0; have HS6 : Hid (kSets.R 181 (w5.alloc (.cells #[.slice (some ⟨sb, 0, none⟩) N N] 181)) w3.heap.size tru (.slice (some ⟨w5.heap.size, 0, none⟩) 1 1) [r0]) := Lib.hid (by
  have hr := Kd.zbk (Kd.R_mono (Kd.R_bound HRU.out) (fun k hk => hk.2.2.1)) (.cells #[.slice (some ⟨sb, 0, none⟩) N N] 181)
  exact lit_one rfl (zau w5 _) HB5.out.size ⟨_, rfl, hr⟩ (fun k hk => Nat.ne_of_lt hk))
 have HGX0 : Hid (Gx w3 (w5.alloc (.cells #[.slice (some ⟨sb, 0, none⟩) N N] 181)) (.slice (some ⟨w5.heap.size, 0, none⟩) 1 1) (.slice none 0 0) (.slice none 0 0) [r0] []) := Lib.hid ⟨zac HB5.out _, HS6.out, Kd.R_nil _ _ _ _ _⟩; have HAL0 : Hid (∀ X ∈ [r0], SetOk l.length N X) := Lib.hid (fun X hX => by rw [List.mem_singleton.1 hX]; exact HR0O.out)
 clear HS6 HRU HS0 HR0O hsb2; obtain ⟨K, hK⟩ : ∃ K, K = l.length + m.length := ⟨_, rfl⟩; have HKE := Lib.hid hK; have hK192 : K ≤ 192 := by omega
 have hK1 : 1 ≤ K := by omega
 have hw0 : IntKind.i64.wrap ((l.length : Int) + (m.length : Int)) = (K : Int) := by rw [IntWalk.i64_in _ (by omega)]; omega
 clear hK
 go_wp2_with fail
 go_loopg [8, 9, 10] kl (fun kq v8 v9 v10 w' => ∃ (i : Nat) (A8 : Option Addr) (c8 : Nat) (A9 : Option Addr) (n9 c9 : Nat) (ss : List (List Nat)) (gs : List (List Int)), v10 = .int .i64 (i : Int) ∧ v8 = .slice A8 ss.length c8 ∧ v9 = .slice A9 n9 c9 ∧ kq ≤ kl ∧ i ≤ 2048 ∧ ss.length ≤ 2048 ∧ Hid (gs.length = i) ∧ Hid (dI l.length m.length sp (zbo m.length ps) (64 * N + 1) kq i ss gs = some res) ∧ Hid (∀ X ∈ ss, SetOk l.length N X) ∧ Hid (Gx w3 w' (.slice A8 ss.length c8) (.slice A9 n9 c9) (.slice none 0 0) ss gs))
 case atStart => exact ⟨0, _, _, _, _, _, [r0], [], rfl, rfl, rfl, Nat.le_refl _, Nat.zero_le _, (show 1 ≤ 2048 by decide), Lib.hid rfl, HGI, HAL0, HGX0⟩
 case round =>
  clear HGI HAL0 HGX0 HB5; obtain ⟨i, A8, c8, A9, n9, c9, ss0, gs, rfl, rfl, rfl, hkq, hi, hst, HGL, HGI, HALL, HGX⟩ := hrel; by_cases hil : i < ss0.length
  ·have hib : decide ((i : Int) < (ss0.length : Int)) = true := decide_eq_true (by omega)
   have hi0 : (0 : Int) ≤ (i : Int) := by omega
   have hiw : IntKind.i64.wrap ((i : Int) + 1) = (i : Int) + 1 := IntWalk.i64_in _ (by omega)
   obtain ⟨si, hsi⟩ : ∃ si, ss0[i]? = some si := ⟨_, List.getElem?_eq_getElem hil⟩; have HSI := Lib.hid hsi; have HSO := Lib.hid (HALL.out si (List.mem_of_getElem? hsi)); clear hsi; have HGR := Lib.hid ((HGX.out.row (v1 := .slice (some ⟨wr.heap.size, 0, none⟩) 1 1) (fun q hq => by simp [Value.ownBlock] at hq; exact Nat.le_of_eq hq)).alloc (.cells #[.int .i64 (-1)] 3))
   have HRW : Hid (kI.R 3 (wr.alloc (.cells #[.int .i64 (-1)] 3)) w3.heap.size tru (.slice (some ⟨wr.heap.size, 0, none⟩) 1 1) [-1]) := Lib.hid (lit_one (okp := fun _ => False) rfl (zau wr _) HGX.out.below.size rfl (fun _ h => h.elim))
   clear HGX; have HGY : Hid (dY l.length sp (zbo m.length ps) (64 * N + 1) si ((List.range K).drop 1) [-1] ss0 = dY l.length sp (zbo m.length ps) (64 * N + 1) si (List.range K).tail [-1] ss0) := Lib.hid (by rw [List.drop_one])
   obtain ⟨st0, hst0⟩ : ∃ st0, st0 = ss0 := ⟨_, rfl⟩; rw [← hst0] at HGI; have HGY : Hid (dY l.length sp (zbo m.length ps) (64 * N + 1) si ((List.range K).drop 1) [-1] ss0 = dY l.length sp (zbo m.length ps) (64 * N + 1) si (List.range K).tail [-1] st0) := Lib.hid (by rw [hst0]; exact HGY.out)
   have HSI0 : Hid (st0[i]? = some si) := Lib.hid (by rw [hst0]; exact HSI.out)
   clear hst0
   go_wp2_with fail
   go_loopw [8, 11, 12] (fun v8 v11 v12 w' => ∃ (y : Nat) (A8 : Option Addr) (c8 : Nat) (ss : List (List Nat)) (row : List Int) (A11 : Option Addr) (n11 c11 : Nat), v12 = .int .i64 (y : Int) ∧ v8 = .slice A8 ss.length c8 ∧ v11 = .slice A11 n11 c11 ∧ 1 ≤ y ∧ y ≤ K ∧ ss.length ≤ 2048 ∧ Hid (row.length = y) ∧ Hid (dY l.length sp (zbo m.length ps) (64 * N + 1) si ((List.range K).drop y) row ss = dY l.length sp (zbo m.length ps) (64 * N + 1) si (List.range K).tail [-1] st0) ∧ Hid (ss[i]? = some si) ∧ Hid (∀ X ∈ ss, SetOk l.length N X) ∧ Hid (Gx w3 w' (.slice A8 ss.length c8) (.slice A9 n9 c9) (.slice A11 n11 c11) ss gs) ∧ Hid (kI.R 3 w' w3.heap.size tru (.slice A11 n11 c11) row)) (fun _ _ v12 _ => K - (intOf v12).toNat)
   case atStart => exact ⟨1, _, _, ss0, [-1], _, _, _, rfl, rfl, rfl, Nat.le_refl _, hK1, hst, Lib.hid rfl, HGY, HSI, HALL, HGR, HRW⟩
   case round =>
    clear HGY HSI HALL HGR HRW hst hil hib hi0; obtain ⟨y, A8, c8, ss, row, A11, n11, c11, rfl, rfl, rfl, hy1, hy, hst, HRL, HGY, HSI, HALL, HGX, HRW⟩ := hrel; have HXW := Lib.hid (zak HX3.out HGX.out.below); have g0 := zaa HXW.out 0; have g1 := zaa HXW.out 1; simp at g0 g1; by_cases hyl : y < K
    ·have hyb : decide ((y : Int) < (K : Int)) = true := decide_eq_true (by omega)
     have hyw : IntKind.i64.wrap ((y : Int) + 1) = (y : Int) + 1 := IntWalk.i64_in _ (by omega)
     have hy2 : y + 1 ≤ K := hyl; have hy1s : 1 ≤ y + 1 := by omega
     have hme : K - (y + 1) < K - y := by omega
     have hin : i < ss.length := (List.getElem?_eq_some_iff.1 HSI.out).1; have hi0 : (0 : Int) ≤ (i : Int) := by omega
     have hi1 : (i : Int) < (ss.length : Int) := by omega
     have hpos : decide ((0 : Int) < (ss.length : Int)) = true := decide_eq_true (by omega)
     have HBO : Hid ((row.length + 1) * 8 ≤ 140737488355328) := Lib.hid (by have := HRL.out; omega)
     obtain ⟨hn8, hc8, hC8⟩ := Kd.zbh HGX.out.sets; obtain ⟨ad8, A5, c5, rfl, s0, -, hC5⟩ := at_Sl (d := kU) (e := 128) hC8 (i := i) HSI.out; rw [HSO.out.len] at s0 hC5; obtain ⟨r, hr, hro, hrl⟩ := closeD_of HSPX.out (behV_ok HSPX.out HSO.out y); have HBE := Lib.hid (behind_any (HD.out.below HGX.out.below) rfl HF.out hpp F V rfl HFT.out HVL.out HV.out HP0.out N HND.out A5 c5 si r (64 * N + 1) y (SetOk.xs HSO.out t64) hC5 (by rw [← HKE.out]; exact hyl) (fun _ => by rw [← HSP.out]; exact hr))
     rw [← HSP.out] at HBE; have hgy := HGY.out; rw [range_drop hyl] at hgy; rw [dY_cons] at hgy; rw [HSO.out.len, hr] at hgy; have HGYy := Lib.hid hgy; have HRO := Lib.hid hro; clear hn8 hc8 hC8 hC5 hr hro hrl hgy HGY
     go_wp2_with (go_at_call 74; refine Hid.out ?_)
     refine Lib.hid ?_; refine (HBE.out).mono ?_; rintro e6 w6 ⟨hb6, hcase⟩; have HG6 := Lib.hid (HGX.out.bel hb6); have HRW6 := Lib.hid (Kd.zbf HRW.out hb6); have hrs : wr.heap.size ≥ w3.heap.size := HGX.out.below.size; clear hb6 HGX HRW HBE s0 g0 g1 HXW; rcases hcase with ⟨hm, rfl⟩ | ⟨hm, ob, rfl, hob, hs6⟩
     ·have HGY2 : Hid (dY l.length sp (zbo m.length ps) (64 * N + 1) si ((List.range K).drop (y + 1)) (row ++ [(-1 : Int)]) ss = dY l.length sp (zbo m.length ps) (64 * N + 1) si (List.range K).tail [-1] st0) := Lib.hid (by
       have h := HGYy.out; rw [if_pos hm] at h; exact h)
      clear hm HGYy
      go_wp2_with fail
      go_loopw [15, 16] (fun v15 v16 w' => v15 = .int .i64 (-1) ∧ v16 = .int .i64 0 ∧ Hid (Gx w3 w' (.slice (some ad8) ss.length c8) (.slice A9 n9 c9) (.slice A11 n11 c11) ss gs) ∧ Hid (kI.R 3 w' w3.heap.size tru (.slice A11 n11 c11) row)) (fun _ _ _ => 0)
      case atStart => exact ⟨rfl, rfl, HG6, HRW6⟩
      case round =>
       clear HG6 HRW6; obtain ⟨rfl, rfl, HG6, HRW6⟩ := hrel
       go_wp2_with ((with_reducible refine zay (b := .append) (xs := #[.tmp 98, .tmp 100]) rfl ?_); refine Hid.out ?_)
       refine Lib.hid ?_
       at_builtin
       refine Kd.R_append kI (w0 := w3) (W := wr) w3.heap.size rfl (.tmp 98) (.tmp 100) 95 3 (.int .i64 0) 8 rfl Tryd.underlying95 Bld.info3 rfl (by decide) (by decide) (.slice A11 n11 c11) row (-1 : Int) [.int .i64 (-1 : Int)] tru (fun _ => False) rfl rfl rfl (fun _ h => h.elim) (fun _ _ => trivial) HRW6.out HG6.out.below HG6.out.below.size HBO.out ?_
       intro v7 w7 ho7 hb7 hg7 hat7; have HGX7 := Lib.hid (HG6.out.appR hg7 hat7 HRW6.out hb7); obtain ⟨A7, c7, hv7, -, -⟩ := Kd.zbb ho7; generalize hn7 : (row ++ [((-1 : Int) : Int)]).length = n7 at hv7; subst hv7; have HRW7 := Lib.hid ho7; have HRL7 : Hid ((row ++ [((-1 : Int) : Int)]).length = y + 1) := Lib.hid (by rw [List.length_append, HRL.out]; rfl)
       clear hn7 ho7 hb7 hg7 hat7
       go_wp2_with fail
       go_roundw
       case rel => first | exact ⟨y + 1, _, _, ss, row ++ [((-1 : Int) : Int)], A7, n7, c7, by rw [Int.natCast_add]; rfl, rfl, rfl, hy1s, hy2, hst, HRL7, HGY2, HSI, HALL, HGX7, HRW7⟩ | ((repeat apply Exists.intro); exact ⟨⟨y + 1, _, _, ss, row ++ [((-1 : Int) : Int)], A7, n7, c7, by rw [Int.natCast_add]; rfl, rfl, rfl, hy1s, hy2, hst, HRL7, HGY2, HSI, HALL, HGX7, HRW7⟩, rfl⟩)
       case measure => exact hme
     ·have hob3 : w3.heap.size ≤ ob := Nat.le_trans hrs hob; have HRU := Lib.hid (R_ul (B := w3.heap.size) hob3 hs6 HRO.out.len hN20); have hgy := HGYy.out; rw [if_neg hm] at hgy; have HGY3 := Lib.hid hgy; have hobt : Hid (some ob ≠ (Value.slice A11 n11 c11).ownBlock) := Lib.hid (fun e => by
       obtain ⟨cells, hc⟩ := Kd.R_typed HRW6.out ob e.symm; rw [hs6] at hc; injection hc with hc; injection hc with _ hc; exact absurd hc (by decide))
      clear hm hgy HGYy hs6 hob hob3 hrs hobt
      go_wp2_with fail
      go_loopw [15, 16] (fun v15 v16 w' => ∃ (j : Nat), v16 = .int .i64 (j : Int) ∧ j ≤ ss.length ∧ ((v15 = .int .i64 (-1) ∧ Hid (ixS r (ss.take j) = none)) ∨ ∃ n : Nat, v15 = .int .i64 (n : Int) ∧ Hid (ixS r ss = some n)) ∧ Hid (Gx w3 w' (.slice (some ad8) ss.length c8) (.slice A9 n9 c9) (.slice A11 n11 c11) ss gs) ∧ Hid (kI.R 3 w' w3.heap.size tru (.slice A11 n11 c11) row) ∧ Hid (kU.R 128 w' w3.heap.size tru (.slice (some ⟨ob, 0, none⟩) N N) r)) (fun _ v16 _ => ss.length - (intOf v16).toNat)
      case atStart => exact ⟨0, rfl, Nat.zero_le _, .inl ⟨rfl, Lib.hid rfl⟩, HG6, HRW6, HRU⟩
      case round =>
       clear HG6 HRW6 HRU; obtain ⟨j, rfl, hj, hcs, HG6, HRW6, HRU⟩ := hrel; rcases hcs with ⟨rfl, HIX⟩ | ⟨n, rfl, HIX⟩
       ·by_cases hjl : j < ss.length
        ·have hjb : decide ((j : Int) < (ss.length : Int)) = true := decide_eq_true (by omega)
         have hj0 : (0 : Int) ≤ (j : Int) := by omega
         have hj1 : (j : Int) < (ss.length : Int) := by omega
         have hjw : IntKind.i64.wrap ((j : Int) + 1) = (j : Int) + 1 := IntWalk.i64_in _ (by omega)
         have hj2 : j + 1 ≤ ss.length := hjl; have hmj : ss.length - (j + 1) < ss.length - j := by omega
         obtain ⟨sj, hsj⟩ : ∃ sj, ss[j]? = some sj := ⟨_, List.getElem?_eq_getElem hjl⟩; have HSJ := Lib.hid hsj; have HSJO := Lib.hid (HALL.out sj (List.mem_of_getElem? hsj)); obtain ⟨hn8, hc8, hC8⟩ := Kd.zbh HG6.out.sets; obtain ⟨ad9, A6, c6, he8, s1, -, hC6⟩ := at_Sl (d := kU) (e := 128) hC8 (i := j) hsj; injection he8 with he8; subst he8; rw [HSJO.out.len] at s1 hC6; obtain ⟨-, -, hCr⟩ := Kd.zbh HRU.out; rw [HRO.out.len] at hCr; have HAK := Lib.hid (alike_any A6 c6 (some ⟨ob, 0, none⟩) N N sj r wr hC6 hCr hN20); clear hsj hn8 hc8 hC8 hC6 hCr; by_cases hsr : sj = r
         ·have HIX2 : Hid (ixS r ss = some j) := Lib.hid (ixS_hit HIX.out (by rw [← hsr]; exact HSJ.out))
          have hbt : decide (sj = r) = true := decide_eq_true hsr; rw [hbt] at HAK; clear hsr hbt
          go_wp2_with (go_at_call 75; refine (HAK.out).mono ?_; rintro e7 w7 ⟨rfl, hb7⟩; refine Hid.out ?_)
          refine Lib.hid ?_; have HG7 := Lib.hid (HG6.out.bel hb7); have HRW7 := Lib.hid (Kd.zbf HRW6.out hb7); have HRU7 := Lib.hid (Kd.zbf HRU.out hb7); clear hb7 s1 HAK HG6 HRW6 HRU
          go_wp2_with fail
          go_roundw
          case rel => first | exact ⟨j + 1, by rw [Int.natCast_add]; rfl, hj2, .inr ⟨j, rfl, HIX2⟩, HG7, HRW7, HRU7⟩ | ((repeat apply Exists.intro); exact ⟨⟨j + 1, by rw [Int.natCast_add]; rfl, hj2, .inr ⟨j, rfl, HIX2⟩, HG7, HRW7, HRU7⟩, rfl⟩)
          case measure => exact hmj
         ·have HIX2 : Hid (ixS r (ss.take (j + 1)) = none) := Lib.hid (ixS_miss HIX.out HSJ.out hsr); have hbt : decide (sj = r) = false := decide_eq_false hsr; rw [hbt] at HAK; clear hsr hbt
          go_wp2_with (go_at_call 75; refine (HAK.out).mono ?_; rintro e7 w7 ⟨rfl, hb7⟩; refine Hid.out ?_)
          refine Lib.hid ?_; have HG7 := Lib.hid (HG6.out.bel hb7); have HRW7 := Lib.hid (Kd.zbf HRW6.out hb7); have HRU7 := Lib.hid (Kd.zbf HRU.out hb7); clear hb7 s1 HAK HG6 HRW6 HRU
          go_wp2_with fail
          go_roundw
          case rel => first | exact ⟨j + 1, by rw [Int.natCast_add]; rfl, hj2, .inl ⟨rfl, HIX2⟩, HG7, HRW7, HRU7⟩ | ((repeat apply Exists.intro); exact ⟨⟨j + 1, by rw [Int.natCast_add]; rfl, hj2, .inl ⟨rfl, HIX2⟩, HG7, HRW7, HRU7⟩, rfl⟩)
          case measure => exact hmj
        ·have hjb : decide ((j : Int) < (ss.length : Int)) = false := decide_eq_false (by omega)
         have hix : ixS r ss = none := by
          have h := HIX.out; rw [List.take_of_length_le (by omega)] at h
          exact h
         have hgy := HGY3.out; rw [hix] at hgy; simp only at hgy; by_cases h2048 : ss.length = 2048
         ·have hln : (((ss.length : Nat) : Int) == 2048) = true := by rw [h2048]; rfl
          have hln2 : decide (((ss.length : Nat) : Int) = 2048) = true := by rw [h2048]; rfl
          have hres : res = none := by
           rw [if_pos h2048] at hgy; have h2 := HGI.out; cases gk with
           | zero => simp [dI] at h2
           | succ g =>
            unfold dI at h2; rw [HSI0.out] at h2; simp only at h2; rw [← HKE.out, ← hgy] at h2
            simpa using h2.symm
          have HRES := Lib.hid hres; have HBE := Lib.hid (below_step' HB3.out HG6.out.below); clear hix h2048 hres hgy HG6 HRW6 HRU
          go_wp2_with fail
          go_ret3; have hr := HRES.out; subst hr; exact ⟨HBE.out, rfl⟩
         ·have hln : (((ss.length : Nat) : Int) == 2048) = false := by rw [beq_eq_false_iff_ne]; omega
          have hln2 : decide (((ss.length : Nat) : Int) = 2048) = false := decide_eq_false (by omega)
          rw [if_neg h2048] at hgy; have HGY2 : Hid (dY l.length sp (zbo m.length ps) (64 * N + 1) si ((List.range K).drop (y + 1)) (row ++ [(ss.length : Int)]) (ss ++ [r]) = dY l.length sp (zbo m.length ps) (64 * N + 1) si (List.range K).tail [-1] st0) := Lib.hid hgy; have hst2 : (ss ++ [r]).length ≤ 2048 := by rw [List.length_append]; show ss.length + 1 ≤ 2048; omega
          have HST2 := Lib.hid hst2; have hbs : (ss.length + 1) * 24 ≤ 140737488355328 := by omega
          have HMV : Hid (kSets.M wr w3.heap.size (fun q => some q ≠ (Value.slice (some ad8) ss.length c8).ownBlock) r [.slice (some ⟨ob, 0, none⟩) N N]) := Lib.hid ⟨_, rfl, Kd.R_mono (Kd.R_apart' HRU.out (v := .slice (some ad8) ss.length c8) (e' := 181) (fun q hq => Kd.R_typed HG6.out.sets q hq) (by decide)) (fun q hq => hq.2)⟩
          clear hix h2048 hgy hst2
          go_wp2_with ((with_reducible refine zay (b := .append) (xs := #[.tmp 94, .tmp 96]) rfl ?_); refine Hid.out ?_)
          refine Lib.hid ?_
          at_builtin
          refine Kd.R_append kSets (w0 := w3) (W := wr) w3.heap.size rfl (.tmp 94) (.tmp 96) 184 181 (.slice none 0 0) 24 rfl Tryd.underlying184 info181 rfl (by decide) (by decide) (.slice (some ad8) ss.length c8) ss r [.slice (some ⟨ob, 0, none⟩) N N] tru (fun q => some q ≠ (Value.slice (some ad8) ss.length c8).ownBlock) rfl rfl HMV.out (fun _ hk => ⟨trivial, hk⟩) (fun _ _ => trivial) HG6.out.sets HG6.out.below HG6.out.below.size hbs ?_
          intro v9 w9 ho9 hb9 hg9 hat9; have HRW9 := Lib.hid (Kd.zbn HRW6.out HG6.out.sets (by decide) hg9)
          obtain ⟨A10, c10, hv9, -, -⟩ := Kd.zbb ho9; subst hv9; have HG9 := Lib.hid (HG6.out.appS ho9 hg9 hb9); have HSI9 : Hid ((ss ++ [r])[i]? = some si) := Lib.hid (by rw [List.getElem?_append_left hin]; exact HSI.out)
          have HALL9 : Hid (∀ X ∈ ss ++ [r], SetOk l.length N X) := Lib.hid (fun X hX => by
           rcases List.mem_append.1 hX with hX | hX
           ·exact HALL.out X hX
           ·rw [List.mem_singleton.1 hX]; exact HRO.out)
          have hln3 : (ss ++ [r]).length = ss.length + 1 := by rw [List.length_append]; rfl
          clear ho9 hb9 hg9 hat9 HMV HG6 HRW6 HRU hbs
          go_wp2_with ((with_reducible refine zay (b := .append) (xs := #[.tmp 98, .tmp 100]) rfl ?_); refine Hid.out ?_)
          refine Lib.hid ?_
          at_builtin
          refine Kd.R_append kI (w0 := w3) (W := w9) w3.heap.size rfl (.tmp 98) (.tmp 100) 95 3 (.int .i64 0) 8 rfl Tryd.underlying95 Bld.info3 rfl (by decide) (by decide) (.slice A11 n11 c11) row (ss.length : Int) [.int .i64 (ss.length : Int)] tru (fun _ => False) rfl rfl rfl (fun _ h => h.elim) (fun _ _ => trivial) HRW9.out HG9.out.below HG9.out.below.size HBO.out ?_
          intro v7 w7 ho7 hb7 hg7 hat7; have HGX7 := Lib.hid (HG9.out.appR hg7 hat7 HRW9.out hb7); obtain ⟨A7, c7, hv7, -, -⟩ := Kd.zbb ho7; generalize hn7 : (row ++ [((ss.length : Int) : Int)]).length = n7 at hv7; subst hv7; have HRW7 := Lib.hid ho7; have HRL7 : Hid ((row ++ [((ss.length : Int) : Int)]).length = y + 1) := Lib.hid (by rw [List.length_append, HRL.out]; rfl)
          clear hn7 ho7 hb7 hg7 hat7
          go_wp2_with fail
          go_roundw
          case rel => first | exact ⟨y + 1, A10, c10, (ss ++ [r]), row ++ [((ss.length : Int) : Int)], A7, n7, c7, by rw [Int.natCast_add]; rfl, (by rw [hln3]), rfl, hy1s, hy2, HST2.out, HRL7, HGY2, HSI9, HALL9, HGX7, HRW7⟩ | ((repeat apply Exists.intro); exact ⟨⟨y + 1, A10, c10, (ss ++ [r]), row ++ [((ss.length : Int) : Int)], A7, n7, c7, by rw [Int.natCast_add]; rfl, (by rw [hln3]), rfl, hy1s, hy2, HST2.out, HRL7, HGY2, HSI9, HALL9, HGX7, HRW7⟩, rfl⟩)
          case measure => exact hme
       ·have HGY2 : Hid (dY l.length sp (zbo m.length ps) (64 * N + 1) si ((List.range K).drop (y + 1)) (row ++ [(n : Int)]) ss = dY l.length sp (zbo m.length ps) (64 * N + 1) si (List.range K).tail [-1] st0) := Lib.hid (by
         have h := HGY3.out; rw [HIX.out] at h; exact h)
        have hnb : decide ((n : Int) < 0) = false := decide_eq_false (by omega)
        by_cases hjl : j < ss.length
        case' pos => have hjb : decide ((j : Int) < (ss.length : Int)) = true := decide_eq_true (by omega)
        case' neg => have hjb : decide ((j : Int) < (ss.length : Int)) = false := decide_eq_false (by omega)
        all_goals
         go_wp2_with ((with_reducible refine zay (b := .append) (xs := #[.tmp 98, .tmp 100]) rfl ?_); refine Hid.out ?_)
         refine Lib.hid ?_
         at_builtin
         refine Kd.R_append kI (w0 := w3) (W := wr) w3.heap.size rfl (.tmp 98) (.tmp 100) 95 3 (.int .i64 0) 8 rfl Tryd.underlying95 Bld.info3 rfl (by decide) (by decide) (.slice A11 n11 c11) row (n : Int) [.int .i64 (n : Int)] tru (fun _ => False) rfl rfl rfl (fun _ h => h.elim) (fun _ _ => trivial) HRW6.out HG6.out.below HG6.out.below.size HBO.out ?_
         intro v7 w7 ho7 hb7 hg7 hat7; have HGX7 := Lib.hid (HG6.out.appR hg7 hat7 HRW6.out hb7); obtain ⟨A7, c7, hv7, -, -⟩ := Kd.zbb ho7; generalize hn7 : (row ++ [((n : Int) : Int)]).length = n7 at hv7; subst hv7; have HRW7 := Lib.hid ho7; have HRL7 : Hid ((row ++ [((n : Int) : Int)]).length = y + 1) := Lib.hid (by rw [List.length_append, HRL.out]; rfl)
         clear hn7 ho7 hb7 hg7 hat7
         go_wp2_with fail
         go_roundw
         case rel => first | exact ⟨y + 1, _, _, ss, row ++ [((n : Int) : Int)], A7, n7, c7, by rw [Int.natCast_add]; rfl, rfl, rfl, hy1s, hy2, hst, HRL7, HGY2, HSI, HALL, HGX7, HRW7⟩ | ((repeat apply Exists.intro); exact ⟨⟨y + 1, _, _, ss, row ++ [((n : Int) : Int)], A7, n7, c7, by rw [Int.natCast_add]; rfl, rfl, rfl, hy1s, hy2, hst, HRL7, HGY2, HSI, HALL, HGX7, HRW7⟩, rfl⟩)
         case measure => exact hme
    ·have hyb : decide ((y : Int) < (K : Int)) = false := decide_eq_false (by omega)
     have hyK : y = K := by omega
     have hgy := HGY.out; rw [List.drop_eq_nil_of_le (by rw [List.length_range, hyK]; exact Nat.le_refl _)] at hgy
     have HGE : Hid (dY l.length sp (zbo m.length ps) (64 * N + 1) si (List.range K).tail [-1] st0 = some (some (row, ss))) := Lib.hid hgy.symm; have HMG : Hid (kGo.M wr w3.heap.size (fun q => some q ≠ (Value.slice A9 n9 c9).ownBlock) row [.slice A11 n11 c11]) := Lib.hid ⟨_, rfl, Kd.R_mono (Kd.R_apart' HRW.out (v := .slice A9 n9 c9) (e' := 95) (fun q hq => Kd.R_typed HGX.out.gos q hq) (by decide)) (fun q hq => hq.2)⟩
     have hbo : (gs.length + 1) * 24 ≤ 140737488355328 := by have := HGL.out; omega
     have HGO1 : Hid (kGo.R 95 wr w3.heap.size tru (.slice A9 n9 c9) gs) := Lib.hid (Kd.R_drop HGX.out.gos); clear hgy HGY
     go_wp2_with ((with_reducible refine zay (b := .append) (xs := #[.tmp 102, .tmp 104]) rfl ?_); refine Hid.out ?_)
     refine Lib.hid ?_
     at_builtin
     refine Kd.R_append kGo (w0 := w3) (W := wr) w3.heap.size rfl (.tmp 102) (.tmp 104) 23 95 (.slice none 0 0) 24 rfl Tryd.underlying23 Bld.info95 rfl (by decide) (by decide) (.slice A9 n9 c9) gs row [.slice A11 n11 c11] tru (fun q => some q ≠ (Value.slice A9 n9 c9).ownBlock) rfl rfl HMG.out (fun _ hk => ⟨trivial, hk⟩) (fun _ _ => trivial) HGO1.out HGX.out.below HGX.out.below.size hbo ?_
     intro v9 w9 ho9 hb9 hg9 hat9; have HGX9 := Lib.hid (HGX.out.appG ho9 hg9 hb9); obtain ⟨A10, c10, hv9, -, -⟩ := Kd.zbb ho9; generalize hn10 : (gs ++ [row]).length = n10 at hv9; subst hv9; clear ho9 hb9 hg9 hat9 HMG HGO1 HGX g0 g1 HXW hn10; obtain ⟨g, hg, HGI2⟩ : ∃ g, g + 1 = gk ∧ Hid (dI l.length m.length sp (zbo m.length ps) (64 * N + 1) g (i + 1) ss (gs ++ [row]) = some res) := by
      have h2 := HGI.out; cases gk with
      | zero => simp [dI] at h2
      | succ g =>
       refine ⟨g, rfl, Lib.hid ?_⟩; unfold dI at h2; rw [HSI0.out] at h2; simp only at h2; rw [← HKE.out, HGE.out] at h2; exact h2
     have hin : i < ss.length := (List.getElem?_eq_some_iff.1 HSI.out).1; have hi2 : i + 1 ≤ 2048 := by omega
     have hgq : g < gk := by omega
     have hgk2 : g ≤ kl := by omega
     have HGL2 : Hid ((gs ++ [row]).length = i + 1) := Lib.hid (by rw [List.length_append, HGL.out]; rfl)
     go_wp2_with fail
     go_roundg g
     case measure => exact hgq
     case rel => exact ⟨i + 1, _, _, A10, n10, c10, ss, gs ++ [row], by rw [Int.natCast_add]; rfl, rfl, rfl, hgk2, hi2, hst, HGL2, HGI2, HALL, HGX9⟩
  ·have hib : decide ((i : Int) < (ss0.length : Int)) = false := decide_eq_false (by omega)
   have hres : res = some (ss0, gs) := by
    have h2 := HGI.out; cases gk with
    | zero => simp [dI] at h2
    | succ g =>
     unfold dI at h2; rw [List.getElem?_eq_none (by simpa using hil)] at h2
     simpa using h2.symm
   have HRES := Lib.hid hres; have HO0 : Hid (kLs.R 119 wr w3.heap.size tru (.slice none 0 0) ((ss0.take 0).map (fun s => zbl sp s s.length))) := Lib.hid (Kd.R_nil _ _ _ _ _)
   clear hres HGI
   go_wp2_with fail
   go_loopw [18, 19] (fun v18 v w' => ∃ (q : Nat) (A18 : Option Addr) (n18 c18 : Nat), v = .int .i64 (q : Int) ∧ v18 = .slice A18 n18 c18 ∧ q ≤ ss0.length ∧ Hid (Gx w3 w' (.slice A8 ss0.length c8) (.slice A9 n9 c9) (.slice none 0 0) ss0 gs) ∧ Hid (kLs.R 119 w' w3.heap.size tru (.slice A18 n18 c18) ((ss0.take q).map (fun s => zbl sp s s.length)))) (fun _ v _ => ss0.length - (intOf v).toNat)
   case atStart => exact ⟨0, _, _, _, rfl, rfl, Nat.zero_le _, HGX, HO0⟩
   case round =>
    clear HGX HO0; obtain ⟨q, A18, n18, c18, rfl, rfl, hq, HGX, HO⟩ := hrel; by_cases hql : q < ss0.length
    ·have hqb : decide ((q : Int) < (ss0.length : Int)) = true := decide_eq_true (by omega)
     have hq0 : (0 : Int) ≤ (q : Int) := Int.natCast_nonneg _; have hq1 : (q : Int) < (ss0.length : Int) := by omega
     have hqw : IntKind.i64.wrap ((q : Int) + 1) = (q : Int) + 1 := IntWalk.i64_in _ (by omega)
     have hq2 : q + 1 ≤ ss0.length := hql; have hme : ss0.length - (q + 1) < ss0.length - q := by omega
     obtain ⟨sq, hsq⟩ : ∃ sq, ss0[q]? = some sq := ⟨_, List.getElem?_eq_getElem hql⟩; have HSQ := Lib.hid hsq; have HSQO := Lib.hid (HALL.out sq (List.mem_of_getElem? hsq)); obtain ⟨hn8, hc8, hC8⟩ := Kd.zbh HGX.out.sets; obtain ⟨ad8, A5, c5, rfl, s0, -, hC5⟩ := at_Sl (d := kU) (e := 128) hC8 (i := q) hsq; rw [HSQO.out.len] at s0 hC5; have HSO := Lib.hid (sorted_any (HD.out.below HGX.out.below) HF.out F V N HND.out A5 c5 sq HSQO.out hC5); rw [← HSP.out] at HSO; have HOL : Hid ((ss0.take (q + 1)).map (fun s => zbl sp s s.length) = (ss0.take q).map (fun s => zbl sp s s.length) ++ [zbl sp sq N]) := Lib.hid (by
      obtain ⟨hq', hsq'⟩ := List.getElem?_eq_some_iff.1 HSQ.out; rw [List.take_succ_eq_append_getElem hq', List.map_append, hsq', List.map_cons, List.map_nil, HSQO.out.len])
     have hbo : (((ss0.take q).map (fun s => zbl sp s s.length)).length + 1) * 24 ≤ 140737488355328 := by rw [List.length_map, List.length_take]; omega
     clear hsq hn8 hc8 hC8 hC5
     go_wp2_with (go_at_call 76; refine (HSO.out).mono ?_; rintro e8 w8 ⟨vr, rfl, hrv, hb8⟩; refine Hid.out ?_)
     refine Lib.hid ?_; obtain ⟨Av, cv, hvv, -, -⟩ := Kd.zbb hrv; generalize hnv : (zbl sp sq N).length = nv at hvv; subst hvv; have HG8 := Lib.hid (HGX.out.bel hb8); have HO8 := Lib.hid (Kd.zbf HO.out hb8); have HM8 : Hid (kLs.M w8 w3.heap.size (fun k => some k ≠ (Value.slice A18 n18 c18).ownBlock) (zbl sp sq N) [.slice Av nv cv]) := Lib.hid ⟨_, rfl, Kd.R_lower (Kd.R_mono (Kd.R_bound hrv) (fun k hk e => by
      obtain ⟨cells, hc⟩ := Kd.R_typed HO.out k e.symm; have h1 := (Array.getElem?_eq_some_iff.1 hc).1; have h2 := hk.2.1; omega)) HGX.out.below.size⟩
     clear hnv hrv hb8 HGX HO HSO s0
     go_wp2_with ((with_reducible refine zay (b := .append) (xs := #[.tmp 118, .tmp 120]) rfl ?_); refine Hid.out ?_)
     refine Lib.hid ?_
     at_builtin
     refine Kd.R_append kLs (w0 := w3) (W := w8) w3.heap.size rfl (.tmp 118) (.tmp 120) 116 119 (.slice none 0 0) 24 rfl Tryd.underlying116 info119 rfl (by decide) (by decide) (.slice A18 n18 c18) ((ss0.take q).map (fun s => zbl sp s s.length)) (zbl sp sq N) [.slice Av nv cv] tru (fun k => some k ≠ (Value.slice A18 n18 c18).ownBlock) rfl rfl HM8.out (fun _ hk => ⟨trivial, hk⟩) (fun _ _ => trivial) HO8.out HG8.out.below HG8.out.below.size hbo ?_
     intro v9 w9 ho9 hb9 hg9 hat9; have HG9 : Hid (Gx w3 w9 (.slice (some ad8) ss0.length c8) (.slice A9 n9 c9) (.slice none 0 0) ss0 gs) := Lib.hid ⟨hb9, Kd.zbn HG8.out.sets HO8.out (by decide) hg9, Kd.zbn HG8.out.gos HO8.out (by decide) hg9⟩
     rw [← HOL.out] at ho9; obtain ⟨A10, c10, hv9, -, -⟩ := Kd.zbb ho9; generalize hn10 : ((ss0.take (q + 1)).map (fun s => zbl sp s s.length)).length = n10 at hv9
     subst hv9; have HO9 := Lib.hid ho9; clear ho9 hb9 hg9 hat9 HG8 HO8 HM8 hn10 hbo
     go_wp2_with fail
     go_roundw
     case rel => first | exact ⟨q + 1, A10, n10, c10, by rw [Int.natCast_add]; rfl, rfl, hq2, HG9, HO9⟩ | ((repeat apply Exists.intro); exact ⟨⟨q + 1, A10, n10, c10, by rw [Int.natCast_add]; rfl, rfl, hq2, HG9, HO9⟩, rfl⟩)
     case measure => exact hme
    ·have hqb : decide ((q : Int) < (ss0.length : Int)) = false := decide_eq_false (by omega)
     have ho := HO.out; rw [List.take_of_length_le (by omega)] at ho
     obtain ⟨hn1, -, hC1⟩ := Kd.zbh ho; rw [List.length_map] at hC1 hn1; subst hn1; obtain ⟨hn2, -, hC2⟩ := Kd.zbh HGX.out.gos; subst hn2; have HC1 := Lib.hid hC1; have HC2 := Lib.hid hC2; have HBE := Lib.hid (below_step' HB3.out HGX.out.below); clear ho hC1 hC2 HO HGX
     go_wp2_with fail
     go_ret3; have hr := HRES.out; subst hr; exact ⟨HBE.out, _, _, _, _, rfl, HC1.out, HC2.out⟩
set_option maxRecDepth 100000 in
set_option maxHeartbeats 4000000 in
theorem dsets_wrong (A : Option Addr) (c : Nat) (l : List S112) (B : Option Addr) (d : Nat) (m : List S115) (C : Option Addr) (e : Nat) (ps : List S77) (w : World)
  (hg : GR w A c l B d m C e ps) (kr : Nat) (hri : trellisref12_Right.f kr l m ps = some false) :
  Calls Tryd.prog 42 #[.agg #[.slice A l.length c, .slice B m.length d, .slice C ps.length e]] w fun e w' => e = .returned (.tuple #[.slice none 0 0, .slice none 0 0, .int .i64 43]) ∧ Below w.heap.size w w' := by
 have hbA := zac (Below.refl w.heap.size w) (.cells #[.slice A l.length c, .slice B m.length d, .slice C ps.length e] 51); have HG1 := Lib.hid (hg.below hbA); have HBA := Lib.hid hbA; have HRI := Lib.hid hri; clear hg hbA hri
 go_enter Tryd.func42, Tryd.ntmps42
 go_wp2_with (go_at_call 70; refine (trellisref12_Right.calls kr A c l B d m C e ps false _ HG1.out.hA HG1.out.cA HG1.out.hB HG1.out.cB HG1.out.hC HG1.out.cC HRI.out).mono ?_; rintro e1 w1 ⟨rfl, hb1⟩; refine Hid.out ?_)
 refine Lib.hid ?_; have HB1 := Lib.hid (zam HBA.out hb1); clear hb1 HBA HG1
 go_wp2_with fail
 go_ret3; exact ⟨rfl, HB1.out⟩
end Doc
end Go.Proofs.YtcijanmckhlpiaaDoor
namespace Go.Proofs.YtcijanmckhlpiaaDoor.PTableBuilds
open Go.RowKit Go.Proofs.YtcijanmckhlpiaaDoorW.PrintWords Go.Proofs.YtcijanmckhlpiaaDoorW.PrintLast Go.Proofs.YtcijanmckhlpiaaDoorW.PrintMore
attribute [local go_sem] max2_int min2_int max_two min_two max_three min_three max_four min_four
theorem eqA93 (d : Nat) (w : World) (x0 y0 : Int) (x1 y1 : Int) :
  (Op.equalIn (d + 2) 93 (.agg #[.int .i64 x0, .int .i64 x1]) (.agg #[.int .i64 y0, .int .i64 y1])).run Tryd.prog w = .ok (x0 == y0 && (x1 == y1)) w := by
 refine eqA_of Tryd.underlying93 (by kernel_rfl) ?_
 refine eqf_cons (by rfl) (by go_simp; rfl) (by go_simp; rfl) (by go_simp) ?_
 exact eqf_last (by rfl) (by go_simp; rfl) (by go_simp; rfl) (by go_simp)
end Go.Proofs.YtcijanmckhlpiaaDoor.PTableBuilds
