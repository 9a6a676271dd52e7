-- Texts of this seat, cut to what is used and merged (by shake.py).
import Derived.Test.YtcijanmckhlpiaaDoorSq13
import Derived.Test.YtcijanmckhlpiaaDoorSq14
import Derived.Test.YtcijanmckhlpiaaDoorSq17
import Derived.Test.YtcijanmckhlpiaaDoorSq19
import Derived.Test.YtcijanmckhlpiaaDoorSq20
set_option linter.unusedVariables false
set_option linter.unusedSimpArgs false
namespace Go.Proofs.YtcijanmckhlpiaaDoor
open Go.RowKit Go.Proofs.YtcijanmckhlpiaaDoorW.PrintWords Go.Proofs.YtcijanmckhlpiaaDoorW.PrintLast Go.Proofs.YtcijanmckhlpiaaDoorW.PrintMore Go.Proofs.YtcijanmckhlpiaaDoor.PTableBuilds
namespace Doc
open Bld
theorem rd93_nat {o : List S93} {i : Nat} (h : i < o.length) : rd_T93 o (i : Int) = o[i] := by
 unfold rd_T93; rw [Int.toNat_natCast, List.getD_eq_getElem?_getD, List.getElem?_eq_getElem h]; rfl
theorem rd178_nat {o : List S178} {i : Nat} (h : i < o.length) : zaq o (i : Int) = o[i] := by
 unfold zaq; rw [Int.toNat_natCast, List.getD_eq_getElem?_getD, List.getElem?_eq_getElem h]; rfl
theorem acts_l1 (l : List S112) (m : List S115) (ps : List S77) (set : List S178) (t : Int) (a : S93) (L : List S93) (x10 : Int) (hL : L.length ≤ 1099511627777) (R : List S93)
  (hn : Ev (fun k => trellisref13_actions.l0 k set t (addA L a) (wrap64 (x10 + 1)) l m ps) R) :
  ∀ (d i : Nat) (fl : Bool), L.length - i = d → i ≤ L.length → (fl || (L.drop i).any (fun b => sameA b a)) = L.any (fun b => sameA b a) → Ev (fun k => trellisref13_actions.l1 k set t L x10 fl (i : Int) l m ps a.f0 a.f1) R := by
 intro d
 induction d with
 | zero =>
  intro i fl hd hi hfl; rw [List.drop_eq_nil_of_le (by omega), List.any_nil, Bool.or_false] at hfl
  unfold addA at hn; refine Ev.step (fun k => ?_) hn
  simp only [trellisref13_actions.l1]; rw [if_neg (by omega), ← hfl]
  cases fl with
  | true => rw [if_pos rfl, if_pos rfl]
  | false => rw [if_neg (show ¬ (false = true) by decide), if_pos (by omega), if_neg (show ¬ (false = true) by decide)]
 | succ d ih =>
  intro i fl hd hi hfl; have hlt : i < L.length := by omega
  rw [List.drop_eq_getElem_cons hlt, List.any_cons] at hfl; cases fl with
  | true =>
   refine Ev.step (fun k => ?_) (ih (i + 1) true (by omega) (by omega) (by rw [← hfl, Bool.true_or, Bool.true_or]))
   simp only [trellisref13_actions.l1]; rw [if_pos (by omega), if_pos trivial, w64s (by omega)]
  | false =>
   refine Ev.step (fun k => ?_) (ih (i + 1) (sameA L[i] a) (by omega) (by omega) (by rw [← hfl, Bool.false_or]))
   simp only [trellisref13_actions.l1]; rw [if_pos (by omega), if_neg (by decide), if_pos (by omega), rd93_nat hlt, w64s (by omega)]
   rfl
theorem addA_le (L : List S93) (a : S93) : (addA L a).length ≤ L.length + 1 := by
 unfold addA
 split
 ·exact Nat.le_succ _
 ·simp
theorem acts_l0 (l : List S112) (m : List S115) (ps : List S77) (set : List S178) (t : Int) (hs : set.length ≤ 1099511627776) (hf : ∀ x ∈ set, 0 ≤ x.f0 ∧ x.f0 < (ps.length : Int)) (tn : Nat) (ht : t = (tn : Int)) :
  ∀ (d i : Nat) (L : List S93), set.length - i = d → i ≤ set.length → L.length ≤ i + 1 → Ev (fun k => trellisref13_actions.l0 k set t L (i : Int) l m ps) ((set.drop i).foldl (itL ps tn) L) := by
 intro d
 induction d with
 | zero =>
  intro i L hd hi hL; rw [List.drop_eq_nil_of_le (by omega), List.foldl_nil]
  refine Ev.step (f := fun _ => some L) (fun k => ?_) (Ev.now _)
  simp only [trellisref13_actions.l0]; rw [if_neg (by omega)]
 | succ d ih =>
  intro i L hd hi hL; have hlt : i < set.length := by omega
  obtain ⟨f1, f2⟩ := hf _ (List.getElem_mem hlt); rw [List.drop_eq_getElem_cons hlt, List.foldl_cons]; generalize hx : set[i] = x at *; have hskip : itL ps tn L x = L → Ev (fun k => trellisref13_actions.l0 k set t L (wrap64 ((i : Int) + 1)) l m ps) ((set.drop (i + 1)).foldl (itL ps tn) (itL ps tn L x)) := fun e => by
   rw [e, w64s (by omega)]
   exact ih (i + 1) L (by omega) (by omega) (by omega)
  by_cases hlk : x.f2 = t
  ·by_cases hd2 : x.f1 < ((zal ps x.f0).f1.length : Int)
   ·refine Ev.step (f := fun k => trellisref13_actions.j2 k set t L (i : Int) true l m ps x.f0 x.f1 x.f2) (fun k => ?_) (Ev.step (fun k => ?_) (hskip (by unfold itL; rw [if_pos (.inr hd2)])))
    ·simp only [trellisref13_actions.l0]; rw [if_pos (by omega), if_pos (by omega), rd178_nat hlt, hx, if_pos hlk, if_pos f1, if_pos f2, decide_eq_true hd2]
    ·simp only [trellisref13_actions.j2]; rw [if_pos trivial]
   ·have hit : itL ps tn L x = addA L (itA x) := by unfold itL; rw [if_neg (fun c => by rcases c with c | c; exact c (by rw [hlk, ht]); exact hd2 c)]
    have hnx := acts_l1 l m ps set t (itA x) L (i : Int) (by omega) ((set.drop (i + 1)).foldl (itL ps tn) (itL ps tn L x)) (by
     rw [hit, w64s (by omega)]
     exact ih (i + 1) _ (by omega) (by omega) (by have := addA_le L (itA x); omega)) _ 0 false rfl (Nat.zero_le _) (by rw [List.drop_zero, Bool.false_or])
    refine Ev.step (f := fun k => trellisref13_actions.j2 k set t L (i : Int) false l m ps x.f0 x.f1 x.f2) (fun k => ?_) (Ev.step (f := fun k => trellisref13_actions.j3 k set t L (i : Int) l m ps (itA x).f0 (itA x).f1) (fun k => ?_) (Ev.step (fun k => ?_) hnx))
    ·simp only [trellisref13_actions.l0]; rw [if_pos (by omega), if_pos (by omega), rd178_nat hlt, hx, if_pos hlk, if_pos f1, if_pos f2, decide_eq_false hd2]
    ·simp only [trellisref13_actions.j2]; rw [if_neg (by decide)]
     unfold itA; by_cases h0 : x.f0 = 0
     ·rw [if_pos h0, if_pos h0]
     ·rw [if_neg h0, if_neg h0]
    ·simp only [trellisref13_actions.j3]; rfl
  ·refine Ev.step (f := fun k => trellisref13_actions.j2 k set t L (i : Int) true l m ps x.f0 x.f1 x.f2) (fun k => ?_) (Ev.step (fun k => ?_) (hskip (by unfold itL; rw [if_pos (.inl (by rw [← ht]; exact hlk))])))
   ·simp only [trellisref13_actions.l0]; rw [if_pos (by omega), if_pos (by omega), rd178_nat hlt, hx, if_neg hlk]
   ·simp only [trellisref13_actions.j2]; rw [if_pos trivial]
theorem acts_ev (l : List S112) (m : List S115) (ps : List S77) (set : List S178) (goes : List Int) (t : Nat) (ht : t < goes.length) (hs : set.length ≤ 1099511627776) (hf : ∀ x ∈ set, 0 ≤ x.f0 ∧ x.f0 < (ps.length : Int)) :
  Ev (fun k => trellisref13_actions.f k l m ps set goes (t : Int)) (actsL ps set goes t) := by
 have hrd : rd goes (t : Int) = goes.getD t 0 := by unfold rd; rw [Int.toNat_natCast]
 have key : ∀ L : List S93, L.length ≤ 1 → Ev (fun k => trellisref13_actions.j0 k set (t : Int) L l m ps) (set.foldl (itL ps t) L) := fun L hL => by
  have h := acts_l0 l m ps set (t : Int) hs hf t rfl _ 0 L rfl (Nat.zero_le _) (by omega)
  rw [List.drop_zero] at h; refine Ev.step (fun k => ?_) h
  simp only [trellisref13_actions.j0]; rfl
 unfold actsL shL; by_cases h0 : 0 ≤ goes.getD t 0
 ·rw [if_pos h0]; refine Ev.congr (fun k => ?_) (key [⟨1, goes.getD t 0⟩] (by simp))
  unfold trellisref13_actions.f; rw [if_pos (by omega), if_pos (by omega), hrd, if_pos h0, if_pos (by simp)]
  rfl
 ·rw [if_neg h0]; refine Ev.congr (fun k => ?_) (key [] (by simp))
  unfold trellisref13_actions.f; rw [if_pos (by omega), if_pos (by omega), hrd, if_neg (by omega)]
abbrev kAs : Kd (List S93) := Kd.slice 93 k93
structure Dt (w0 W : World) (tb : Nat) (tc : Array Value) (vA vG vl : Value) (rows : List (List S93)) (gos : List (List Int)) : Prop where
 below : Below w0.heap.size w0 W
 tbk : W.heap[tb]? = some (.cells tc 25 (0, 0))
 ge : w0.heap.size ≤ tb
 A : kAs.R 90 W w0.heap.size (fun k => tru k ∧ some k ≠ vl.ownBlock) vA rows
 G : kGo.R 95 W w0.heap.size (fun k => tru k ∧ some k ≠ vl.ownBlock) vG gos
section
variable {w0 W W1 : World} {tb : Nat} {tc : Array Value} {vA vG vl v1 : Value} {rows : List (List S93)} {gos : List (List Int)}
theorem Dt.bel (h : Dt w0 W tb tc vA vG vl rows gos) (hb : Below W.heap.size W W1) : Dt w0 W1 tb tc vA vG vl rows gos := ⟨zam h.below hb, zak h.tbk hb, h.ge, Kd.zbf h.A hb, Kd.zbf h.G hb⟩
theorem Dt.drew (h : Dt w0 W tb tc vA vG vl rows gos) : Dt w0 W.drew tb tc vA vG vl rows gos := h.bel (zaw (Below.refl _ _))
theorem Dt.drop (h : Dt w0 W tb tc vA vG vl rows gos) : Dt w0 W tb tc vA vG (.slice none 0 0) rows gos := ⟨h.below, h.tbk, h.ge, Kd.R_apart_nil (Kd.R_drop h.A), Kd.R_apart_nil (Kd.R_drop h.G)⟩
theorem Dt.app (h : Dt w0 W tb tc vA vG vl rows gos) {q : Nat} (hq : q ≠ 25) (ht : ∀ k, vl.ownBlock = some k → ∃ cells, W.heap[k]? = some (.cells cells q (0, 0))) (hg : W.grownBy W1 vl.ownBlock) (hat : v1.ownBlock = vl.ownBlock ∨ ∃ b, v1.ownBlock = some b ∧ W.heap.size ≤ b) (hb : Below w0.heap.size w0 W1) : Dt w0 W1 tb tc vA vG v1 rows gos :=
 ⟨hb, zas h.tbk hg (fun e => by
  obtain ⟨cells, hc⟩ := ht tb e.symm; rw [h.tbk] at hc; injection hc with hc; injection hc with _ hc; exact hq hc.symm), h.ge, Kd.R_after h.A hg hat, Kd.R_after h.G hg hat⟩
theorem Dt.appA (h : Dt w0 W tb tc vA vG vl rows gos) {rows' : List (List S93)} (ho : kAs.R 90 W1 w0.heap.size tru v1 rows') (hg : W.grownBy W1 vA.ownBlock) (hb : Below w0.heap.size w0 W1) : Dt w0 W1 tb tc v1 vG (.slice none 0 0) rows' gos :=
 ⟨hb, zas h.tbk hg (Kd.R_ne h.A h.tbk (by decide)), h.ge, Kd.R_apart_nil ho, Kd.R_apart_nil (Kd.R_drop (Kd.zbn h.G h.A (by decide) hg))⟩
theorem Dt.appG (h : Dt w0 W tb tc vA vG vl rows gos) {gos' : List (List Int)} (ho : kGo.R 95 W1 w0.heap.size tru v1 gos') (hg : W.grownBy W1 vG.ownBlock) (hb : Below w0.heap.size w0 W1) : Dt w0 W1 tb tc vA v1 (.slice none 0 0) rows gos' :=
 ⟨hb, zas h.tbk hg (Kd.R_ne h.G h.tbk (by decide)), h.ge, Kd.R_apart_nil (Kd.R_drop (Kd.zbn h.A h.G (by decide) hg)), Kd.R_apart_nil ho⟩
theorem Dt.setT (h : Dt w0 W tb tc vA vG vl rows gos) (j : Nat) (u : Value) {tc' : Array Value} (e : tc.setIfInBounds j u = tc') : Dt w0 (W.setCell ⟨tb, j, none⟩ u) tb tc' vA vG vl rows gos :=
 ⟨zaf h.below h.ge, zat h.tbk j u e, h.ge, Kd.zbp h.A h.tbk (by decide) j u, Kd.zbp h.G h.tbk (by decide) j u⟩
end
theorem at_kI {W : World} {A : Option Addr} {n : Nat} {xs : List Int} (h : kI.C W A n xs) {i : Nat} (hi : i < n) : ∃ ad, A = some ad ∧ W.cell? (ad.add i) = some (.int .i64 (xs.getD i 0)) := by
 obtain ⟨ad, cs, e, hcl, hK, hcc⟩ := Kd.C_get h 0 (i : Int) (Int.natCast_nonneg _) (by omega)
 have h0 := hcc 0 _ (by rw [show cs = [.int .i64 (xs.getD (i : Int).toNat 0)] from hK]; rfl)
 rw [Int.toNat_natCast] at h0; have e2 : i * kI.sz + 0 = i := by show i * 1 + 0 = i; omega
 rw [e2] at h0; exact ⟨ad, e, h0⟩
theorem rd93_snoc (L : List S93) : rd_T93 (L ++ [⟨0, 0⟩]) 0 = L.headD ⟨0, 0⟩ := by cases L <;> rfl
theorem drop_take {g : List Int} {T x : Nat} (h : T + x < g.length) : (g.drop T).take (x + 1) = (g.drop T).take x ++ [g.getD (T + x) 0] := by
 rw [List.take_succ_eq_append_getElem (by rw [List.length_drop]; omega), List.getElem_drop, List.getD_eq_getElem?_getD, List.getElem?_eq_getElem h]; rfl
def RetDB (w : World) (res : BR) (e : Ending) (w' : World) : Prop := Below w.heap.size w w' ∧ match res with
 | .inl (rows, gos) => ∃ A c B d, e = .returned (.tuple #[.agg #[.slice A rows.length c, .slice B gos.length d], .int .i64 0, .int .i64 0, .int .i64 0]) ∧ kAs.C w' A rows.length rows ∧ kGo.C w' B gos.length gos
 | .inr (code, s, t) => e = .returned (.tuple #[.agg #[.slice none 0 0, .slice none 0 0], .int .i64 code, .int .i64 s, .int .i64 t])
set_option maxRecDepth 100000 in
set_option maxHeartbeats 8000000 in
theorem dbuild_any (A : Option Addr) (c : Nat) (l : List S112) (B : Option Addr) (d : Nat) (m : List S115) (C : Option Addr) (e : Nat) (ps : List S77) (w : World)
  (hg : GR w A c l B d m C e ps) (h64 : l.length ≤ 64) (h128 : m.length ≤ 128) (sp : List S230) (res : Option (List (List Nat) × List (List Int)))
  (hS : ∀ W, GR W A c l B d m C e ps → Calls Tryd.prog 42 #[.agg #[.slice A l.length c, .slice B m.length d, .slice C ps.length e]] W (RetSets W sp res)) (hok : ∀ ss gs, res = some (ss, gs) → SetsOk l.length m.length ps sp ss gs) :
  Calls Tryd.prog 21 #[.agg #[.slice A l.length c, .slice B m.length d, .slice C ps.length e]] w (RetDB w (buildS l.length ps sp res)) := by
 have hb0 := zac (zac (Below.refl w.heap.size w) (.cells #[.slice A l.length c, .slice B m.length d, .slice C ps.length e] 51)) (.cells #[.slice none 0 0, .slice none 0 0] 25); have HB0 := Lib.hid hb0; have HG := Lib.hid (hg.below hb0); have HX := Lib.hid (zad (zau w (.cells #[.slice A l.length c, .slice B m.length d, .slice C ps.length e] 51)) (.cells #[.slice none 0 0, .slice none 0 0] 25)); have hrb := zau (w.alloc (.cells #[.slice A l.length c, .slice B m.length d, .slice C ps.length e] 51)) (.cells #[.slice none 0 0, .slice none 0 0] 25); rw [szA] at hrb; have HRB := Lib.hid hrb; have HCALL := Lib.hid hS; have hrbs : w.heap.size ≤ w.heap.size + 1 := Nat.le_succ _; have HOK := Lib.hid hok; clear hb0 hg hrb hS hok
 go_enter Tryd.func21, Tryd.ntmps21
 go_wp2_with ((with_reducible refine gate_ (.load 51 (.tmp 1)) rfl ?_); refine Hid.out ?_)
 refine Lib.hid ?_; generalize (w.alloc (.cells #[.slice A l.length c, .slice B m.length d, .slice C ps.length e] 51)).alloc (.cells #[.slice none 0 0, .slice none 0 0] 25) = w2 at *; generalize hrbe : w.heap.size + 1 = rb at *; generalize hgbe : w.heap.size = gb at *; have x0 := zaa HX.out 0; have x1 := zaa HX.out 1; have x2 := zaa HX.out 2; simp at x0 x1 x2; rcases res with _ | ⟨ss, gs⟩
 ·go_wp2_with (go_at_call 42; refine (HCALL.out w2 HG.out).mono ?_; rintro e1 w3 ⟨hb3, rfl⟩; refine Hid.out ?_)
  refine Lib.hid ?_; have HB3 := Lib.hid hb3; have HR3 := Lib.hid (zak HRB.out hb3); have r0 := zaa HR3.out 0; have r0f := zae HR3.out 0; have r1 := zaa HR3.out 1; have r1f := zae HR3.out 1; simp at r0 r1; clear hb3
  go_wp2_with fail
  refine bodyPost_ret (results_cttt rfl _ _ rb 25 #[.slice none 0 0, .slice none 0 0] (0, 0) _ rfl (zat (cs' := #[.slice none 0 0, .slice none 0 0]) (zat (cs' := #[.slice none 0 0, .slice none 0 0]) HR3.out 0 _ rfl) 1 _ rfl) Tryd.underlying25 rfl (by kernel_rfl)) rfl ?_
  refine ⟨?_, rfl⟩; have hbw : Below w.heap.size w w3 := zam (w := w) (by rw [hgbe]; exact HB0.out) HB3.out
  have hge : w.heap.size ≤ rb := by omega
  exact zaf (zaf hbw hge) hge
 ·have HSO := Lib.hid (HOK.out ss gs rfl)
  go_wp2_with (go_at_call 42; refine (HCALL.out w2 HG.out).mono ?_; rintro e1 w3 ⟨hb3, As, ca, Bs, cb, rfl, hss, hgs⟩; refine Hid.out ?_)
  refine Lib.hid ?_; have HB3 := Lib.hid hb3; have HR3 := Lib.hid (zak HRB.out hb3); have HX3 := Lib.hid (zak HX.out hb3); have HG3 := Lib.hid (HG.out.below hb3); generalize hsets : (ss.map fun s => zbl sp s s.length) = sets at *
  have hsl : sets.length = ss.length := by rw [← hsets, List.length_map]
  have HFIT : Hid (∀ q ∈ sets, FitI l.length ps q ∧ q.length ≤ 1099511627776) := Lib.hid (fun q hq => by
   rw [← hsets, List.mem_map] at hq; obtain ⟨s0, hs0, rfl⟩ := hq; exact HSO.out.fit s0 hs0)
  have HSS := Lib.hid hss; have HGS := Lib.hid hgs; have hmost := HSO.out.most; have hbs : buildS l.length ps sp (some (ss, gs)) = goB l.length ps sets gs 0 ([], []) := by
   show goB l.length ps (ss.map fun s => zbl sp s s.length) gs 0 ([], []) = _
   rw [hsets]
  have HBS := Lib.hid hbs; generalize buildS l.length ps sp (some (ss, gs)) = br at *; clear hb3 hss hgs hsets hbs x0 x1 x2 HX HG HRB; have HT0 : Hid (Dt w3 (w3.alloc (.cells #[.slice none 0 0, .slice none 0 0] 25)) w3.heap.size #[.slice none 0 0, .slice none 0 0] (.slice none 0 0) (.slice none 0 0) (.slice none 0 0) [] []) := Lib.hid ⟨zac (Below.refl _ _) _, zau w3 _, Nat.le_refl _, Kd.R_nil _ _ _ _ _, Kd.R_nil _ _ _ _ _⟩
  go_wp2_with fail
  generalize w3.heap.size = tb at *
  go_loopw [10] (fun v w' => ∃ (i : Nat) (Av : Option Addr) (nv cv : Nat) (Bv : Option Addr) (mv dv : Nat) (rows : List (List S93)) (gos : List (List Int)), v = .int .i64 (i : Int) ∧ i ≤ ss.length ∧ Hid (rows.length = i ∧ gos.length = i) ∧ Hid (goB l.length ps (sets.drop i) gs i (rows, gos) = br) ∧ Hid (Dt w3 w' tb #[.slice Av nv cv, .slice Bv mv dv] (.slice Av nv cv) (.slice Bv mv dv) (.slice none 0 0) rows gos)) (fun v _ => ss.length - (intOf v).toNat)
  case atStart => exact ⟨0, none, 0, 0, none, 0, 0, [], [], rfl, Nat.zero_le _, Lib.hid ⟨rfl, rfl⟩, by rw [List.drop_zero]; exact Lib.hid HBS.out.symm, HT0⟩
  case round =>
   clear HT0 HBS; obtain ⟨i, Av, nv, cv, Bv, mv, dv, rows, gos, rfl, hi, HLN, HGB, HT⟩ := hrel; by_cases hil : i < ss.length
   ·obtain ⟨st0, hst0⟩ : ∃ x, sets[i]? = some x := ⟨_, List.getElem?_eq_getElem (by omega)⟩
    obtain ⟨g0, hg0⟩ : ∃ x, gs[i]? = some x := ⟨_, List.getElem?_eq_getElem (by have := HSO.out.len; omega)⟩
    obtain ⟨ads, A5, c5, rfl, s1, hc5, hC5⟩ := at_Sl HSS.out hst0; obtain ⟨adg, A6, c6, rfl, g1, hc6, hC6⟩ := at_Sl HGS.out hg0; have HS1 := Lib.hid s1; have HG1 := Lib.hid g1; have HC5 := Lib.hid hC5; have HC6 := Lib.hid hC6; have hfi := HFIT.out st0 (List.mem_of_getElem? hst0); have hgr := HSO.out.row g0 (List.mem_of_getElem? hg0); have hib : decide ((i : Int) < (ss.length : Int)) = true := decide_eq_true (by omega)
    have hi0 : (0 : Int) ≤ (i : Int) := Int.natCast_nonneg _; have hi1 : (i : Int) < (ss.length : Int) := by omega
    have hi1g : (i : Int) < (gs.length : Int) := by have := HSO.out.len; omega
    have hiw : IntKind.i64.wrap ((i : Int) + 1) = (i : Int) + 1 := IntWalk.i64_in _ (by omega)
    have hi2 : i + 1 ≤ ss.length := hil; have hme : ss.length - (i + 1) < ss.length - i := by omega
    have HRI := Lib.hid (row_acts (goes := g0) hfi.1); have HFI := Lib.hid hfi; have hgb := HGB.out; rw [drop_of_get hst0, goB_step _ _ _ _ _ _ _ _ hg0] at hgb; have HGB1 := Lib.hid hgb; have HGR := Lib.hid hgr; clear hfi hC5 hC6 hst0 hg0 hgb HGB hgr s1 g1; have HR0 : Hid (k93.R 93 wr w3.heap.size tru (.slice none 0 0) ((List.range 0).map fun t => (actsL ps st0 g0 t).headD ⟨0, 0⟩)) := Lib.hid (Kd.R_nil _ _ _ _ _)
    go_wp2_with fail
    go_loopw [11, 12] (fun v11 v12 w' => ∃ (a : Nat) (A11 : Option Addr) (n11 c11 : Nat), v12 = .int .i64 (a : Int) ∧ v11 = .slice A11 n11 c11 ∧ a ≤ l.length ∧ Hid (∀ t, t < a → (actsL ps st0 g0 t).length ≤ 1) ∧ Hid (Dt w3 w' tb #[.slice Av nv cv, .slice Bv mv dv] (.slice Av nv cv) (.slice Bv mv dv) (.slice A11 n11 c11) rows gos) ∧ Hid (k93.R 93 w' w3.heap.size tru (.slice A11 n11 c11) ((List.range a).map fun t => (actsL ps st0 g0 t).headD ⟨0, 0⟩))) (fun _ v12 _ => l.length - (intOf v12).toNat)
    case atStart => exact ⟨0, _, _, _, rfl, rfl, Nat.zero_le _, Lib.hid (fun t ht => absurd ht (Nat.not_lt_zero _)), HT, HR0⟩
    case round =>
     clear HT HR0; obtain ⟨a, A11, n11, c11, rfl, rfl, ha, HLE, HT, HR⟩ := hrel; have x0 := zaa (zak HX3.out HT.out.below) 0; have x1 := zaa (zak HX3.out HT.out.below) 1; have x2 := zaa (zak HX3.out HT.out.below) 2; simp at x0 x1 x2; by_cases hal : a < l.length
     ·have hab : decide ((a : Int) < (l.length : Int)) = true := decide_eq_true (by omega)
      have haw : IntKind.i64.wrap ((a : Int) + 1) = (a : Int) + 1 := IntWalk.i64_in _ (by omega)
      have ha2 : a + 1 ≤ l.length := hal; have hmf : l.length - (a + 1) < l.length - a := by omega
      obtain ⟨kr, hkr⟩ := (acts_ev l m ps st0 g0 a (by have := HGR.out; omega) HFI.out.2 (fun x hx => ⟨(HFI.out.1 x hx).1, (HFI.out.1 x hx).2.1⟩)).rounds
      have hgd := HG3.out.below HT.out.drew.below; have HACT := Lib.hid (trellisref13_actions.calls kr A c l B d m C e ps A5 c5 st0 A6 c6 g0 (a : Int) (actsL ps st0 g0 a) wr.drew hgd.hA hgd.cA hgd.hB hgd.cB hgd.hC hgd.cC (Kd.zav HC5.out HT.out.drew.below) hc5 (Kd.zav HC6.out HT.out.drew.below) hc6 hkr); have s1 := zan HT.out.below HS1.out; have g1 := zan HT.out.below HG1.out; obtain ⟨L, hL⟩ : ∃ L, L = actsL ps st0 g0 a := ⟨_, rfl⟩; have HL := Lib.hid hL; rw [← hL] at HACT; clear hkr hgd hL; have hmx : Tryd.prog.follows .mixedOrders = true := by kernel_rfl
      go_wp2_with fail
      refine start_ (n := 12) (S := fun w' => w'.cell? ⟨gb, 0, none⟩ = some (.slice A l.length c) ∧ w'.cell? ⟨gb, 1, none⟩ = some (.slice B m.length d) ∧ w'.cell? ⟨gb, 2, none⟩ = some (.slice C ps.length e) ∧ w'.cell? (ads.add i) = some (.slice A5 st0.length c5) ∧ w'.cell? (adg.add i) = some (.slice A6 g0.length c6)) (ds := [10]) #[false, false, false, false, false, false, false, false, false, false, false, false] (by kernel_rfl) rfl rfl ⟨x0, x1, x2, s1, g1⟩ (fun hHeld => ?_)
      refine pe_ 1 (some 40) ?_ ?_ ?_ ?_ ?_; rotate_left
      ·intro w'; go_simp
       with_reducible rfl
      rotate_left
      ·simp only [nm_]; rfl
      refine pe_ 2 (some 41) ?_ ?_ ?_ ?_ ?_; rotate_left
      ·intro w'; go_simp
       with_reducible rfl
      rotate_left
      ·simp only [nm_]; rfl
      refine pe_ 3 (some 42) ?_ ?_ ?_ ?_ ?_; rotate_left
      ·intro w'; go_simp
       with_reducible rfl
      rotate_left
      ·simp only [nm_]; rfl
      refine pe_ 5 (some 44) ?_ ?_ ?_ ?_ ?_; rotate_left
      ·intro w'; go_simp
       with_reducible rfl
      rotate_left
      ·simp only [nm_]; rfl
      refine pe_ 6 (some 45) ?_ ?_ ?_ ?_ ?_; rotate_left
      ·intro w'; go_simp
       with_reducible rfl
      rotate_left
      ·simp only [nm_]; rfl
      refine pe_ 7 (some 46) ?_ ?_ ?_ ?_ ?_; rotate_left
      ·intro w'; go_simp
       with_reducible rfl
      rotate_left
      ·simp only [nm_]; rfl
      refine pe_ 9 (some 48) ?_ ?_ ?_ ?_ ?_; rotate_left
      ·intro w'; go_simp
       with_reducible rfl
      rotate_left
      ·simp only [nm_]; rfl
      refine te_ 0 (some 39) hHeld ?_ ?_ ?_ ?_ ?_; rotate_left
      ·rintro w' ⟨s0, s1, s2, s3, s4⟩; go_simp
       with_reducible rfl
      rotate_left
      ·simp only [nm_]; rfl
      refine te_ 4 (some 43) hHeld ?_ ?_ ?_ ?_ ?_; rotate_left
      ·rintro w' ⟨s0, s1, s2, s3, s4⟩; go_simp
       with_reducible rfl
      rotate_left
      ·simp only [nm_]; rfl
      refine te_ 8 (some 47) hHeld ?_ ?_ ?_ ?_ ?_; rotate_left
      ·rintro w' ⟨s0, s1, s2, s3, s4⟩; go_simp
       with_reducible rfl
      rotate_left
      ·simp only [nm_]; rfl
      refine lu_ (i := 10) (N := some 49) rfl rfl (by kernel_rfl) (by decide) (fun K hK => ?_)
      refine goes_ Tryd.func43 (by kernel_rfl) rfl #[.agg #[.slice A l.length c, .slice B m.length d, .slice C ps.length e], .slice A5 st0.length c5, .slice A6 g0.length c6, .int .i64 (a : Int)] (by rfl) rfl rfl (by simp only [List.map_toArray, List.map_cons, List.map_nil]; rfl) ?_
      with_reducible refine (HACT.out).mono ?_
      rintro e4 w4 ⟨v4, rfl, hl4, hb4⟩; refine ⟨_, rfl, ?_⟩; obtain ⟨A4, c4, hv4, -, -⟩ := Kd.zbb hl4; generalize hn4 : L.length = n4 at hv4; subst hv4; have HB4 := Lib.hid hb4; have HL4 := Lib.hid hl4; have HN4 := Lib.hid hn4; clear hb4 hl4 hn4; refine hK.out _ _ ?_; clear hK K; refine norm_ (a' := ?_) ?_ ?_; rotate_left
      ·show Act.put _ (some 49) _ = _; simp only [nm_]; rfl
      refine pe_ 11 (some 13) ?_ ?_ ?_ ?_ ?_; rotate_left
      ·intro w'; go_simp
       with_reducible rfl
      rotate_left
      ·simp only [nm_]; rfl
      refine done_ (by kernel_rfl) ?_
      clear hHeld HACT x0 x1 x2 s1 g1; by_cases hln : 1 < n4
      ·have hgt : decide ((n4 : Int) > 1) = true := decide_eq_true (by omega)
       have hgt2 : decide ((1 : Int) < (n4 : Int)) = true := decide_eq_true (by omega)
       have HT4 := Lib.hid (HT.out.drew.bel HB4.out); have HRE := Lib.hid (zak HR3.out HT4.out.below); have r0 := zaa HRE.out 0; have r0f := zae HRE.out 0; have r1 := zaa HRE.out 1; have r1f := zae HRE.out 1; simp at r0 r1; have hbad := ri_bad HRI.out hal (by rw [← HL.out, HN4.out]; exact hln) HLE.out
       have hbr := HGB1.out; rw [hbad] at hbr; have HBR := Lib.hid hbr; clear hbad hbr HRI HGB1 HT HR
       go_wp2_with fail
       have h0 : Below w.heap.size w w2 := by rw [hgbe]; exact HB0.out
       have hbw : Below w.heap.size w w4 := zam (zam h0 HB3.out) HT4.out.below; have hgr : w.heap.size ≤ rb := by omega
       refine bodyPost_ret (results_cttt rfl _ _ rb 25 #[.slice none 0 0, .slice none 0 0] (0, 0) _ rfl (zat (cs' := #[.slice none 0 0, .slice none 0 0]) (zat (cs' := #[.slice none 0 0, .slice none 0 0]) HRE.out 0 _ rfl) 1 _ rfl) Tryd.underlying25 rfl (by kernel_rfl)) rfl ?_
       rw [← HBR.out]; exact ⟨zaf (zaf hbw hgr) hgr, rfl⟩
      ·have hgt : decide ((n4 : Int) > 1) = false := decide_eq_false (by omega)
       have hgt2 : decide ((1 : Int) < (n4 : Int)) = false := decide_eq_false (by omega)
       have HLE2 : Hid (∀ t, t < a + 1 → (actsL ps st0 g0 t).length ≤ 1) := Lib.hid (fun t ht => by
        by_cases h : t = a
        ·subst h; rw [← HL.out, HN4.out]; omega
        ·exact HLE.out t (by omega))
       have hbo1 : (L.length + 1) * 16 ≤ 140737488355328 := by rw [HN4.out]; omega
       go_wp2_with ((with_reducible refine zay (b := .append) (xs := #[.tmp 56, .tmp 58]) rfl ?_); refine Hid.out ?_)
       refine Lib.hid ?_
       at_builtin
       refine Kd.R_append k93 (w0 := wr.drew) (W := w4) wr.drew.heap.size rfl (.tmp 56) (.tmp 58) 90 93 (.agg #[.int .i64 0, .int .i64 0]) 16 rfl Tryd.underlying90 Bld.info93 rfl (by decide) (by decide) (.slice A4 n4 c4) L ⟨0, 0⟩ [.int .i64 0, .int .i64 0] tru (fun _ => False) rfl rfl (k93_mkM _ _ _ _) (fun _ h => h.elim) (fun _ _ => trivial) HL4.out HB4.out HB4.out.size hbo1 ?_
       intro v5 w5 ho5 hb5 hg5 hat5; have HT5 := Lib.hid (HT.out.drew.bel hb5); have HR5 := Lib.hid (Kd.zbf (Kd.R_drew HR.out) hb5); obtain ⟨Aq, cq, hv5, -, -⟩ := Kd.zbb ho5; subst hv5; obtain ⟨-, -, hCq⟩ := Kd.zbh ho5; obtain ⟨ad5, hAq, p0, p1⟩ := at_T93 hCq 0 (Int.le_refl 0) (by rw [List.length_append]; simp)
       subst hAq; rw [rd93_snoc] at p0 p1; have hn5 : (L ++ [(⟨0, 0⟩ : S93)]).length = n4 + 1 := by rw [List.length_append, HN4.out]; rfl
       have hn50 : (0 : Int) < (n4 : Int) + 1 := by omega
       obtain ⟨hd, hhd⟩ : ∃ hd, hd = L.headD (⟨0, 0⟩ : S93) := ⟨_, rfl⟩; have hz5 : ad5.add ((0 : Int).toNat * 2) = ad5 := rfl; rw [hz5] at p0 p1; have hq0 : w5.cell? ad5 = some (.int .i64 hd.f0) := by rw [hhd]; exact p0
       have hq1 : w5.cell? ⟨ad5.block, ad5.off + 1, none⟩ = some (.int .i64 hd.f1) := by rw [hhd]; exact p1
       have HHD := Lib.hid hhd; have hbo2 : (((List.range a).map fun t => (actsL ps st0 g0 t).headD ⟨0, 0⟩).length + 1) * 16 ≤ 140737488355328 := by rw [List.length_map, List.length_range]; omega
       clear ho5 hb5 hg5 hat5 hCq p0 p1 hhd HT HR HL4 HB4 hbo1
       go_wp2_with ((with_reducible refine zay (b := .append) (xs := #[.tmp 60, .tmp 64]) rfl ?_); refine Hid.out ?_)
       refine Lib.hid ?_
       at_builtin
       refine Kd.R_append k93 (w0 := w3) (W := w5) w3.heap.size rfl (.tmp 60) (.tmp 64) 90 93 (.agg #[.int .i64 0, .int .i64 0]) 16 rfl Tryd.underlying90 Bld.info93 rfl (by decide) (by decide) (.slice A11 n11 c11) ((List.range a).map fun t => (actsL ps st0 g0 t).headD ⟨0, 0⟩) hd [.int .i64 hd.f0, .int .i64 hd.f1] tru (fun _ => False) rfl rfl (k93_mkM _ _ _ _) (fun _ h => h.elim) (fun _ _ => trivial) HR5.out HT5.out.below HT5.out.below.size hbo2 ?_
       intro v6 w6 ho6 hb6 hg6 hat6; have HT6 := Lib.hid (HT5.out.app (q := 93) (by decide) (fun k hk => Kd.R_typed HR5.out k hk) hg6 hat6 hb6)
       obtain ⟨A6', c6', hv6, -, -⟩ := Kd.zbb ho6; have HR6 : Hid (k93.R 93 w6 w3.heap.size tru v6 ((List.range (a + 1)).map fun t => (actsL ps st0 g0 t).headD ⟨0, 0⟩)) := Lib.hid (by
        rw [List.range_succ, List.map_append, List.map_cons, List.map_nil, ← HL.out, ← HHD.out]; exact ho6)
       generalize hn6 : (((List.range a).map fun t => (actsL ps st0 g0 t).headD ⟨0, 0⟩) ++ [hd]).length = n6 at hv6
       subst hv6; clear ho6 hb6 hg6 hat6 HT5 HR5 hn6 hq0 hq1 hbo2
       go_wp2_with fail
       go_roundw
       case rel => first | exact ⟨a + 1, _, _, _, by rw [Int.natCast_add]; rfl, rfl, ha2, HLE2, HT6, HR6⟩ | ((repeat apply Exists.intro); exact ⟨⟨a + 1, _, _, _, by rw [Int.natCast_add]; rfl, rfl, ha2, HLE2, HT6, HR6⟩, rfl⟩)
       case measure => exact hmf
     ·have hab : decide ((a : Int) < (l.length : Int)) = false := decide_eq_false (by omega)
      have hae : a = l.length := by omega
      obtain ⟨hbd, hrw⟩ := ri_good HRI.out (by rw [← hae]; exact HLE.out)
      have hgb := HGB1.out; rw [hbd] at hgb; simp only at hgb; rw [hrw, ← hae] at hgb; have HAE := Lib.hid hae; obtain ⟨row, hrow⟩ : ∃ row, row = (List.range a).map fun t => (actsL ps st0 g0 t).headD (⟨0, 0⟩ : S93) := ⟨_, rfl⟩
      rw [← hrow] at HR hgb; rw [hae] at hgb; have HGB2 := Lib.hid hgb; have t0 := zaa HT.out.tbk 0; simp at t0; have hbo : (rows.length + 1) * 24 ≤ 140737488355328 := by have := HLN.out.1; omega
      have HM : Hid (kAs.M wr w3.heap.size (fun q => some q ≠ (Value.slice Av nv cv).ownBlock) row [.slice A11 n11 c11]) := Lib.hid ⟨_, rfl, Kd.R_mono (Kd.R_apart' HR.out (v := .slice Av nv cv) (e' := 90) (fun q hq => Kd.R_typed HT.out.A q hq) (by decide)) (fun q hq => hq.2)⟩
      have HA1 : Hid (kAs.R 90 wr w3.heap.size tru (.slice Av nv cv) rows) := Lib.hid (Kd.R_drop HT.out.A); clear hbd hrw hgb hrow HGB1 hae x1 x2
      go_wp2_with ((with_reducible refine zay (b := .append) (xs := #[.tmp 67, .tmp 69]) rfl ?_); refine Hid.out ?_)
      refine Lib.hid ?_
      at_builtin
      refine Kd.R_append kAs (w0 := w3) (W := wr) w3.heap.size rfl (.tmp 67) (.tmp 69) 22 90 (.slice none 0 0) 24 rfl Tryd.underlying22 Bld.info90 rfl (by decide) (by decide) (.slice Av nv cv) rows row [.slice A11 n11 c11] tru (fun q => some q ≠ (Value.slice Av nv cv).ownBlock) rfl rfl HM.out (fun _ hk => ⟨trivial, hk⟩) (fun _ _ => trivial) HA1.out HT.out.below HT.out.below.size hbo ?_
      intro v7 w7 ho7 hb7 hg7 hat7; have HT7 := Lib.hid (HT.out.appA ho7 hg7 hb7); obtain ⟨A7, c7, hv7, -, -⟩ := Kd.zbb ho7; generalize hn7 : (rows ++ [row]).length = n7 at hv7; subst hv7; have t7 := zaa HT7.out.tbk 0; have t7f := zae HT7.out.tbk 0; simp at t7; have HT8 : Hid (Dt w3 (w7.setCell ⟨tb, 0, none⟩ (.slice A7 n7 c7)) tb #[.slice A7 n7 c7, .slice Bv mv dv] (.slice A7 n7 c7) (.slice Bv mv dv) (.slice none 0 0) (rows ++ [row]) gos) := Lib.hid (HT7.out.setT 0 (.slice A7 n7 c7) rfl); have HR8 : Hid (kI.R 3 (w7.setCell ⟨tb, 0, none⟩ (.slice A7 n7 c7)) w3.heap.size tru (.slice none 0 0) ((g0.drop l.length).take 0)) := Lib.hid (Kd.R_nil _ _ _ _ _); clear ho7 hb7 hg7 hat7 HT HR HM HA1 HT7 t0 x0 hn7
      go_wp2_with fail
      clear t7 t7f
      go_loopw [14, 15] (fun v14 v15 w' => ∃ (x : Nat) (A14 : Option Addr) (n14 c14 : Nat), v15 = .int .i64 (x : Int) ∧ v14 = .slice A14 n14 c14 ∧ x ≤ m.length ∧ Hid (Dt w3 w' tb #[.slice A7 n7 c7, .slice Bv mv dv] (.slice A7 n7 c7) (.slice Bv mv dv) (.slice A14 n14 c14) (rows ++ [row]) gos) ∧ Hid (kI.R 3 w' w3.heap.size tru (.slice A14 n14 c14) ((g0.drop l.length).take x))) (fun _ v15 _ => m.length - (intOf v15).toNat)
      case atStart => exact ⟨0, _, _, _, rfl, rfl, Nat.zero_le _, HT8, HR8⟩
      case round =>
       clear HT8 HR8; obtain ⟨x, A14, n14, c14, rfl, rfl, hx, HT, HR⟩ := hrel; have x0 := zaa (zak HX3.out HT.out.below) 0; have x1 := zaa (zak HX3.out HT.out.below) 1; simp at x0 x1; by_cases hxl : x < m.length
       ·have hxb : decide ((x : Int) < (m.length : Int)) = true := decide_eq_true (by omega)
        have hxw : IntKind.i64.wrap ((x : Int) + 1) = (x : Int) + 1 := IntWalk.i64_in _ (by omega)
        have hx2 : x + 1 ≤ m.length := hxl; have hmg : m.length - (x + 1) < m.length - x := by omega
        obtain ⟨tx, htx⟩ : ∃ tx, tx = l.length + x := ⟨_, rfl⟩; have htw : IntKind.i64.wrap ((l.length : Int) + (x : Int)) = (tx : Int) := by rw [IntWalk.i64_in _ (by omega)]; omega
        have htg : tx < g0.length := by have := HGR.out; omega
        have ht0 : (0 : Int) ≤ (tx : Int) := Int.natCast_nonneg _; have ht1 : (tx : Int) < (g0.length : Int) := by omega
        have hdt := drop_take (g := g0) (T := l.length) (x := x) (by omega)
        rw [← htx] at hdt; have HDT := Lib.hid hdt; obtain ⟨ad6, hA6, e0⟩ := at_kI (Kd.zav HC6.out HT.out.below) htg; generalize g0.getD tx 0 = gx at *; have g1 := zan HT.out.below HG1.out; rw [hA6] at g1; have hbo3 : (((g0.drop l.length).take x).length + 1) * 8 ≤ 140737488355328 := by rw [List.length_take]; omega
        clear htx hdt htg hA6; have hmx : Tryd.prog.follows .mixedOrders = true := by kernel_rfl
        go_wp2_with fail
        refine start_ (n := 15) (S := fun w' => w'.cell? ⟨gb, 0, none⟩ = some (.slice A l.length c) ∧ w'.cell? (adg.add i) = some (.slice (some ad6) g0.length c6) ∧ w'.cell? (ad6.add tx) = some (.int .i64 gx)) (ds := [13]) #[false, false, false, false, false, false, false, false, false, false, false, false, false, false, false] (by kernel_rfl) rfl rfl ⟨x0, g1, e0⟩ (fun hHeld => ?_)
        refine pe_ 0 (some 79) ?_ ?_ ?_ ?_ ?_; rotate_left
        ·intro w'; go_simp
         with_reducible rfl
        rotate_left
        ·simp only [nm_]; rfl
        refine pe_ 1 (some 80) ?_ ?_ ?_ ?_ ?_; rotate_left
        ·intro w'; go_simp
         with_reducible rfl
        rotate_left
        ·simp only [nm_]; rfl
        refine pe_ 2 (some 81) ?_ ?_ ?_ ?_ ?_; rotate_left
        ·intro w'; go_simp
         with_reducible rfl
        rotate_left
        ·simp only [nm_]; rfl
        refine pe_ 3 (some 82) ?_ ?_ ?_ ?_ ?_; rotate_left
        ·intro w'; go_simp
         with_reducible rfl
        rotate_left
        ·simp only [nm_]; rfl
        refine pe_ 5 (some 84) ?_ ?_ ?_ ?_ ?_; rotate_left
        ·intro w'; go_simp
         with_reducible rfl
        rotate_left
        ·simp only [nm_]; rfl
        refine pe_ 8 (some 87) ?_ ?_ ?_ ?_ ?_; rotate_left
        ·intro w'; go_simp
         with_reducible rfl
        rotate_left
        ·simp only [nm_]; rfl
        refine te_ 4 (some 83) hHeld ?_ ?_ ?_ ?_ ?_; rotate_left
        ·rintro w' ⟨s0, s1, s2⟩; go_simp
         with_reducible rfl
        rotate_left
        ·simp only [nm_]; rfl
        refine te_ 6 (some 85) hHeld ?_ ?_ ?_ ?_ ?_; rotate_left
        ·rintro w' ⟨s0, s1, s2⟩; go_simp
         with_reducible rfl
        rotate_left
        ·simp only [nm_]; rfl
        refine pe_ 7 (some 86) ?_ ?_ ?_ ?_ ?_; rotate_left
        ·intro w'; go_simp
         with_reducible rfl
        rotate_left
        ·simp only [nm_]; rfl
        refine pe_ 9 (some 88) ?_ ?_ ?_ ?_ ?_; rotate_left
        ·intro w'; go_simp
         with_reducible rfl
        rotate_left
        ·simp only [nm_]; rfl
        refine pe_ 10 (some 89) ?_ ?_ ?_ ?_ ?_; rotate_left
        ·intro w'; go_simp
         with_reducible rfl
        rotate_left
        ·simp only [nm_]; rfl
        refine te_ 11 (some 90) hHeld ?_ ?_ ?_ ?_ ?_; rotate_left
        ·rintro w' ⟨s0, s1, s2⟩; go_simp
         with_reducible rfl
        rotate_left
        ·simp only [nm_]; rfl
        refine ou_ (i := 12) (N := some 91) rfl rfl (by kernel_rfl) (by decide) (fun K hK => ?_)
        refine value_ (w1 := ?_) (v := ?_) (by rfl) rfl ?_ ?_
        rotate_left 2
        ·go_simp; constructor
         ·rfl
         ·rfl
        refine hK.out _ _ ⟨(zan (zac (Below.refl wr.drew.heap.size wr.drew) _) x0), (zan (zac (Below.refl wr.drew.heap.size wr.drew) _) g1), (zan (zac (Below.refl wr.drew.heap.size wr.drew) _) e0)⟩ (fun hHeld => ?_)
        clear hK K; refine norm_ (a' := ?_) ?_ ?_; rotate_left
        ·show Act.put _ (some 91) _ = _; simp only [nm_]; rfl
        refine lu_ (i := 13) (N := some 92) rfl rfl (by kernel_rfl) (by decide) (fun K hK => ?_)
        refine Kd.R_append_step kI (w0 := w3) (W := wr.drew) w3.heap.size (by rfl) (.tmp 79) (.tmp 91) 95 3 (.int .i64 0) 8 rfl Tryd.underlying95 Bld.info3 rfl (by decide) (by decide) (.slice A14 n14 c14) ((g0.drop l.length).take x) gx [.int .i64 gx] tru (fun _ => False) rfl rfl rfl (fun _ hk => hk.elim) (fun _ _ => trivial) (Kd.R_drew HR.out) HT.out.drew.below HT.out.drew.below.size hbo3 ?_
        intro v9 w9 ho9 hb9 hg9 hat9; have HT9 := Lib.hid (HT.out.drew.app (q := 3) (by decide) (fun k hk => Kd.R_typed (Kd.R_drew HR.out) k hk) hg9 hat9 hb9)
        rw [← HDT.out] at ho9; obtain ⟨A9, c9, hv9, -, -⟩ := Kd.zbb ho9; generalize hn9 : ((g0.drop l.length).take (x + 1)).length = n9 at hv9; subst hv9; have HR9 := Lib.hid ho9; clear hn9 ho9 hb9 hg9 hat9; refine hK.out _ _ ?_; clear hK K; refine norm_ (a' := ?_) ?_ ?_; rotate_left
        ·show Act.put _ (some 92) _ = _; simp only [nm_]; rfl
        refine pe_ 14 (some 14) ?_ ?_ ?_ ?_ ?_; rotate_left
        ·intro w'; go_simp
         with_reducible rfl
        rotate_left
        ·simp only [nm_]; rfl
        refine done_ (by kernel_rfl) ?_
        clear hHeld x0 x1 e0 g1 HT HR hbo3
        go_wp2_with fail
        go_roundw
        case rel => first | exact ⟨x + 1, _, _, _, by rw [Int.natCast_add]; rfl, rfl, hx2, HT9, HR9⟩ | ((repeat apply Exists.intro); exact ⟨⟨x + 1, _, _, _, by rw [Int.natCast_add]; rfl, rfl, hx2, HT9, HR9⟩, rfl⟩)
        case measure => exact hmg
       ·have hxb : decide ((x : Int) < (m.length : Int)) = false := decide_eq_false (by omega)
        have HR1 : Hid (kI.R 3 wr w3.heap.size tru (.slice A14 n14 c14) (g0.drop l.length)) := Lib.hid (by
         have h := HR.out; rw [List.take_of_length_le (by rw [List.length_drop]; have := HGR.out; omega)] at h
         exact h)
        have t1 := zaa HT.out.tbk 1; simp at t1; have hbo : (gos.length + 1) * 24 ≤ 140737488355328 := by have := HLN.out.2; omega
        have HM : Hid (kGo.M wr w3.heap.size (fun q => some q ≠ (Value.slice Bv mv dv).ownBlock) (g0.drop l.length) [.slice A14 n14 c14]) := Lib.hid ⟨_, rfl, Kd.R_mono (Kd.R_apart' HR1.out (v := .slice Bv mv dv) (e' := 95) (fun q hq => Kd.R_typed HT.out.G q hq) (by decide)) (fun q hq => hq.2)⟩
        have HA1 : Hid (kGo.R 95 wr w3.heap.size tru (.slice Bv mv dv) gos) := Lib.hid (Kd.R_drop HT.out.G); clear HR x0
        go_wp2_with ((with_reducible refine zay (b := .append) (xs := #[.tmp 94, .tmp 96]) rfl ?_); refine Hid.out ?_)
        refine Lib.hid ?_
        at_builtin
        refine Kd.R_append kGo (w0 := w3) (W := wr) w3.heap.size rfl (.tmp 94) (.tmp 96) 23 95 (.slice none 0 0) 24 rfl Tryd.underlying23 Bld.info95 rfl (by decide) (by decide) (.slice Bv mv dv) gos (g0.drop l.length) [.slice A14 n14 c14] tru (fun q => some q ≠ (Value.slice Bv mv dv).ownBlock) rfl rfl HM.out (fun _ hk => ⟨trivial, hk⟩) (fun _ _ => trivial) HA1.out HT.out.below HT.out.below.size hbo ?_
        intro v8 w8 ho8 hb8 hg8 hat8; have HT8 := Lib.hid (HT.out.appG ho8 hg8 hb8); obtain ⟨A8, c8, hv8, -, -⟩ := Kd.zbb ho8; generalize hn8 : (gos ++ [g0.drop l.length]).length = n8 at hv8; subst hv8; have t8 := zaa HT8.out.tbk 1; have t8f := zae HT8.out.tbk 1; simp at t8; have HT9 : Hid (Dt w3 (w8.setCell ⟨tb, 1, none⟩ (.slice A8 n8 c8)) tb #[.slice A7 n7 c7, .slice A8 n8 c8] (.slice A7 n7 c7) (.slice A8 n8 c8) (.slice none 0 0) (rows ++ [row]) (gos ++ [g0.drop l.length])) := Lib.hid (HT8.out.setT 1 (.slice A8 n8 c8) rfl); have HLN2 : Hid ((rows ++ [row]).length = i + 1 ∧ (gos ++ [g0.drop l.length]).length = i + 1) := Lib.hid ⟨by rw [List.length_append, HLN.out.1]; rfl, by rw [List.length_append, HLN.out.2]; rfl⟩
        clear ho8 hb8 hg8 hat8 HT HR1 HM HA1 HT8 t1 x1 hn8
        go_wp2_with fail
        clear t8 t8f; go_roundw
        case rel => first | exact ⟨i + 1, A7, n7, c7, A8, n8, c8, rows ++ [row], gos ++ [g0.drop l.length], by rw [Int.natCast_add]; rfl, hi2, HLN2, HGB2, HT9⟩ | ((repeat apply Exists.intro); exact ⟨⟨i + 1, A7, n7, c7, A8, n8, c8, rows ++ [row], gos ++ [g0.drop l.length], by rw [Int.natCast_add]; rfl, hi2, HLN2, HGB2, HT9⟩, rfl⟩)
        case measure => exact hme
   ·have hib : decide ((i : Int) < (ss.length : Int)) = false := decide_eq_false (by omega)
    have t0 := zaa HT.out.tbk 0; have t1 := zaa HT.out.tbk 1; have HRE := Lib.hid (zak HR3.out HT.out.below); have r0 := zaa HRE.out 0; have r0f := zae HRE.out 0; have r1 := zaa HRE.out 1; have r1f := zae HRE.out 1; simp at t0 t1 r0 r1
    go_wp2_with fail
    have hdz : sets.drop i = [] := List.drop_eq_nil_of_le (by omega)
    have hbr : br = .inl (rows, gos) := by rw [← HGB.out, hdz]; rfl
    refine bodyPost_ret (results_cttt rfl _ _ rb 25 #[.slice Av nv cv, .slice Bv mv dv] (0, 0) _ rfl (zat (cs' := #[.slice Av nv cv, .slice Bv mv dv]) (zat (cs' := #[.slice Av nv cv, .slice none 0 0]) HRE.out 0 _ rfl) 1 _ rfl) Tryd.underlying25 rfl (by kernel_rfl)) rfl ?_
    have h0 : Below w.heap.size w w2 := by rw [hgbe]; exact HB0.out
    have hbw : Below w.heap.size w wr := zam (zam h0 HB3.out) HT.out.below; have hge : w.heap.size ≤ rb := by omega
    rw [hbr]; have hp1 := zat (cs' := #[.slice Av nv cv, .slice none 0 0]) HRE.out 0 (.slice Av nv cv) rfl; have hA := Kd.zbp (Kd.zbp (Kd.R_drop HT.out.A) HRE.out (by decide) 0 (.slice Av nv cv)) hp1 (by decide) 1 (.slice Bv mv dv)
    have hG := Kd.zbp (Kd.zbp (Kd.R_drop HT.out.G) HRE.out (by decide) 0 (.slice Av nv cv)) hp1 (by decide) 1 (.slice Bv mv dv)
    obtain ⟨e1, -, hCA⟩ := Kd.zbh hA; obtain ⟨e2, -, hCG⟩ := Kd.zbh hG; subst e1; subst e2; exact ⟨zaf (zaf hbw hge) hge, Av, cv, Bv, dv, rfl, hCA, hCG⟩
set_option maxRecDepth 100000 in
set_option maxHeartbeats 4000000 in
theorem dbuild_wrong (A : Option Addr) (c : Nat) (l : List S112) (B : Option Addr) (d : Nat) (m : List S115) (C : Option Addr) (e : Nat) (ps : List S77) (w : World)
  (hg : GR w A c l B d m C e ps) (kr : Nat) (hri : trellisref12_Right.f kr l m ps = some false) :
  Calls Tryd.prog 21 #[.agg #[.slice A l.length c, .slice B m.length d, .slice C ps.length e]] w (RetDB w (.inr (43, -1, -1))) := by
 have hb0 := zac (zac (Below.refl w.heap.size w) (.cells #[.slice A l.length c, .slice B m.length d, .slice C ps.length e] 51)) (.cells #[.slice none 0 0, .slice none 0 0] 25); have HB0 := Lib.hid hb0; have HCALL := Lib.hid (dsets_wrong A c l B d m C e ps _ (hg.below hb0) kr hri); have HX := Lib.hid (zad (zau w (.cells #[.slice A l.length c, .slice B m.length d, .slice C ps.length e] 51)) (.cells #[.slice none 0 0, .slice none 0 0] 25)); have hrb := zau (w.alloc (.cells #[.slice A l.length c, .slice B m.length d, .slice C ps.length e] 51)) (.cells #[.slice none 0 0, .slice none 0 0] 25); rw [szA] at hrb; have HRB := Lib.hid hrb; clear hb0 hg hrb hri
 go_enter Tryd.func21, Tryd.ntmps21
 go_wp2_with ((with_reducible refine gate_ (.load 51 (.tmp 1)) rfl ?_); refine Hid.out ?_)
 refine Lib.hid ?_; generalize (w.alloc (.cells #[.slice A l.length c, .slice B m.length d, .slice C ps.length e] 51)).alloc (.cells #[.slice none 0 0, .slice none 0 0] 25) = w2 at *; have hge : w.heap.size ≤ w.heap.size + 1 := Nat.le_succ _; generalize w.heap.size + 1 = rb at *; have x0 := zaa HX.out 0; have x1 := zaa HX.out 1; have x2 := zaa HX.out 2; simp at x0 x1 x2
 go_wp2_with (go_at_call 42; refine (HCALL.out).mono ?_; rintro e1 w3 ⟨rfl, hb3⟩; refine Hid.out ?_)
 refine Lib.hid ?_; have HB3 := Lib.hid (zam HB0.out hb3); have HR3 := Lib.hid (zak HRB.out hb3); have r0 := zaa HR3.out 0; have r0f := zae HR3.out 0; have r1 := zaa HR3.out 1; have r1f := zae HR3.out 1; simp at r0 r1; clear hb3 x0 x1 x2 HX HCALL HB0 HRB
 go_wp2_with fail
 refine bodyPost_ret (results_cttt rfl _ _ rb 25 #[.slice none 0 0, .slice none 0 0] (0, 0) _ rfl (zat (cs' := #[.slice none 0 0, .slice none 0 0]) (zat (cs' := #[.slice none 0 0, .slice none 0 0]) HR3.out 0 _ rfl) 1 _ rfl) Tryd.underlying25 rfl (by kernel_rfl)) rfl ?_
 exact ⟨zaf (zaf HB3.out hge) hge, rfl⟩
theorem right_more {T M : Nat} {ps : List S77} (h : rightB T M ps = true) : (zal ps 0).f0 = -1 ∧ ∀ p ∈ ps, ∀ r ∈ p.f1, 1 ≤ r.f0 := by
 unfold rightB at h; simp only [Bool.and_eq_true, decide_eq_true_eq] at h; obtain ⟨⟨h1, h2, h3, h4⟩, h5, h6⟩ := h; constructor
 ·unfold zeroB at h6; simp only [Bool.and_eq_true] at h6; have h8 : ((zal ps 0).f0 == -1) = true := h6.1
  simpa using h8
 ·intro p hp r hr; have := List.all_eq_true.1 (rowsB_all ps 0 h5 p hp) r hr; unfold refB at this; simp at this; omega
theorem dbuild_all (A : Option Addr) (c : Nat) (l : List S112) (B : Option Addr) (d : Nat) (m : List S115) (C : Option Addr) (e : Nat) (ps : List S77) (w : World)
  (hg : GR w A c l B d m C e ps) (hd : dots ps ≤ 1048576) :
  Calls Tryd.prog 21 #[.agg #[.slice A l.length c, .slice B m.length d, .slice C ps.length e]] w (RetDB w (bldR l.length m.length ps)) := by
 obtain ⟨kr, hkr⟩ := (dright_ev l m ps (by have := dots_len ps; omega) (fun p hp => by have := dots_mem hp; omega)).rounds
 unfold bldR; by_cases hr : rightB l.length m.length ps = true
 ·rw [dif_pos ⟨hr, hd⟩]; rw [hr] at hkr; have hfp := fair_of hr hd; obtain ⟨hp0, hsy⟩ := right_more hr; obtain ⟨h1, h2, h3, h4, h5⟩ := (build_data hfp.1 hfp.2).choose_spec.choose_spec; obtain ⟨h6, h7⟩ := h5.choose_spec.choose_spec.choose_spec; have hlt := solveN_lt _ _ _ (Lt.init l.length l.length (Nat.le_refl _)) h1; have hsa := says_of (ps := ps) hfp.1.t64 (fun p hp => by have := (hfp.1.lhs p hp).2; have := hfp.1.t64; have := hfp.1.m128; omega) h1
  have hpz : (ps[0]'hfp.2).f0 = -1 := by
   have e0 := rdT77_nat ps 0 hfp.2; rw [← e0]; exact hp0
  have HSp := sp_fair hfp.1 hfp.2 hpz (V := (build_data hfp.1 hfp.2).choose_spec.choose.2) hlt; refine dbuild_any A c l B d m C e ps w hg hfp.1.t64 hfp.1.m128 _ _ (fun W hW => ?_) h7
  refine dsets_any A c l B d m C e ps W hW hfp.1 kr hkr _ _ hsa.fst hlt (fun k => ?_) null_len hp0 hfp.2 (dots ps) rfl HSp _ _ (sets_same HSp (syms_pos hsy) hfp.1.t1 h6)
  have a := null_says (T := l.length) (ps := ps) (M := m.length) (fun p hp => (hfp.1.lhs p hp).2) k
  have b := hsa.van k; have h := a.trans b.symm; cases c1 : van (nullN l.length ps m.length (List.replicate (l.length + m.length) false)) k <;> cases c2 : van (build_data hfp.1 hfp.2).choose_spec.choose.2 k
  ·rfl
  ·rw [c1, c2] at h; exact absurd (h.2 rfl) (by decide)
  ·rw [c1, c2] at h; exact absurd (h.1 rfl) (by decide)
  ·rfl
 ·rw [dif_neg (fun h => hr h.1)]
  have hr' : rightB l.length m.length ps = false := by simpa using hr
  rw [hr'] at hkr; exact dbuild_wrong A c l B d m C e ps w hg kr hkr
end Doc
end Go.Proofs.YtcijanmckhlpiaaDoor
namespace Go.Proofs.YtcijanmckhlpiaaDoor
open Go.RowKit Go.Proofs.YtcijanmckhlpiaaDoorW.PrintWords Go.Proofs.YtcijanmckhlpiaaDoorW.PrintLast Go.Proofs.YtcijanmckhlpiaaDoorW.PrintMore Go.Proofs.YtcijanmckhlpiaaDoor.PTableBuilds
namespace Rm
open Bld
def rowsO : BR → TRows
 | .inl r => r
 | .inr _ => ([], [])
def codesO : BR → Int × Int × Int
 | .inl _ => (0, 0, 0)
 | .inr c => c
def OutB (w : World) (r : TRows) (k : Int × Int × Int) (e : Ending) (w' : World) : Prop := Below w.heap.size w w' ∧ ∃ A c B d, e = .returned (.tuple #[.agg #[.slice A r.1.length c, .slice B r.2.length d], .int .i64 k.1, .int .i64 k.2.1, .int .i64 k.2.2]) ∧ (Kd.slice 93 k93).C w' A r.1.length r.1 ∧ (Kd.slice 3 (Kd.int .i64)).C w' B r.2.length r.2
theorem C_nil {α : Type} {k : Kd α} {w : World} : k.C w none 0 [] := ⟨rfl, by decide, fun h => absurd h (Nat.lt_irrefl _)⟩
theorem outB_prog {w w' : World} {res : BR} {e : Ending} (h : RetBuild w res e w') : OutB w (rowsO res) (codesO res) e w' := by
 refine ⟨h.1, ?_⟩; have h2 := h.2
 match res, h2 with
 | .inl (rows, gos), h2 =>
  obtain ⟨A, c, B, d, e1, ho⟩ := h2; obtain ⟨hA, hG, a1, a2, a3, a4⟩ := ho.own; obtain ⟨n1, -, c1⟩ := Kd.zbh a1; obtain ⟨n2, -, c2⟩ := Kd.zbh a3; refine ⟨A, c, B, d, e1, ?_, ?_⟩
  ·rw [← n1] at c1; exact a2.readsH c1
  ·rw [← n2] at c2; exact a4.readsH c2
 | .inr (code, s, t), h2 => exact ⟨none, 0, none, 0, h2, C_nil, C_nil⟩
theorem outB_doc {w w' : World} {res : BR} {e : Ending} (h : Doc.RetDB w res e w') : OutB w (rowsO res) (codesO res) e w' := by
 refine ⟨h.1, ?_⟩; have h2 := h.2
 match res, h2 with
 | .inl (rows, gos), h2 =>
  obtain ⟨A, c, B, d, e1, c1, c2⟩ := h2; exact ⟨A, c, B, d, e1, c1, c2⟩
 | .inr (code, s, t), h2 => exact ⟨none, 0, none, 0, h2, C_nil, C_nil⟩
theorem goB_len (T : Nat) (ps : List S77) : ∀ (ss : List (List S178)) (gs : List (List Int)) (i : Nat) (acc : TRows), (rowsO (goB T ps ss gs i acc)).1.length ≤ acc.1.length + ss.length ∧ (rowsO (goB T ps ss gs i acc)).2.length ≤ acc.2.length + ss.length
 | [], gs, i, acc => ⟨Nat.le_refl _, Nat.le_refl _⟩
 | s :: ss, gs, i, acc => by
  unfold goB; cases h : (rowS T ps s (gs.getD i [])).2 with
  | some c => exact ⟨Nat.zero_le _, Nat.zero_le _⟩
  | none =>
   obtain ⟨h1, h2⟩ := goB_len T ps ss gs (i + 1) (acc.1 ++ [(rowS T ps s (gs.getD i [])).1], acc.2 ++ [(gs.getD i []).drop T]); simp only [List.length_append, List.length_cons, List.length_nil] at h1 h2 ⊢; exact ⟨by omega, by omega⟩
theorem bldR_len (T M : Nat) (ps : List S77) : (rowsO (bldR T M ps)).1.length ≤ 2048 ∧ (rowsO (bldR T M ps)).2.length ≤ 2048 := by
 unfold bldR; by_cases h : rightB T M ps = true ∧ dots ps ≤ 1048576
 ·rw [dif_pos h]; have hf := fair_of h.1 h.2; have hs := (build_data hf.1 hf.2).choose_spec.choose_spec.2.2.2.2.choose_spec.choose_spec.choose_spec.2; generalize (build_data (fair_of h.1 h.2).1 (fair_of h.1 h.2).2).choose_spec.choose_spec.2.2.2.2.choose_spec.choose_spec.choose = res at *; generalize zbc _ _ 0 ps = sp at *; cases res with
  | none => exact ⟨Nat.zero_le _, Nat.zero_le _⟩
  | some p =>
   obtain ⟨ss, gs⟩ := p; have hok := hs ss gs rfl; obtain ⟨h1, h2⟩ := goB_len T ps (ss.map fun s => zbl sp s s.length) gs 0 ([], [])
   rw [List.length_map] at h1 h2; have := hok.most; exact ⟨by show (rowsO (goB T ps (ss.map fun s => zbl sp s s.length) gs 0 ([], []))).1.length ≤ _; simp at h1; omega, by show (rowsO (goB T ps (ss.map fun s => zbl sp s s.length) gs 0 ([], []))).2.length ≤ _; simp at h2; omega⟩
 ·rw [dif_neg h]; exact ⟨Nat.zero_le _, Nat.zero_le _⟩
set_option maxRecDepth 100000 in
set_option maxHeartbeats 8000000 in
theorem tableBuilds_any (A : Option Addr) (c : Nat) (l : List S112) (B : Option Addr) (d : Nat) (m : List S115) (C : Option Addr) (e : Nat) (ps : List S77) (w : World) (hg : GR w A c l B d m C e ps) (hd : dots ps ≤ 1048576) (hl : l.length ≤ 1048576) (hm : m.length ≤ 1048576) (hT : Tab64 w) (het : Dec.ErrType w) :
  Calls Tryd.prog 5 #[.agg #[.slice A l.length c, .slice B m.length d, .slice C ps.length e]] w fun e' w' => e' = .returned (.bool true) ∧ Below w.heap.size w w' := by
 have hb0 := zac (Below.refl w.heap.size w) (.cells #[.slice A l.length c, .slice B m.length d, .slice C ps.length e] 51); have HB0 := Lib.hid hb0; have HG := Lib.hid (hg.below hb0); have HT := Lib.hid (hT.below hb0); have HET := Lib.hid (het.below hb0); have HX := Lib.hid (zau w (.cells #[.slice A l.length c, .slice B m.length d, .slice C ps.length e] 51)); obtain ⟨res, hres⟩ : ∃ res, res = bldR l.length m.length ps := ⟨_, rfl⟩; have hbl := bldR_len l.length m.length ps; rw [← hres] at hbl; obtain ⟨⟨R1, R2⟩, hR⟩ : ∃ t, t = rowsO res := ⟨_, rfl⟩; obtain ⟨⟨k1, k2, k3⟩, hk⟩ : ∃ k, k = codesO res := ⟨_, rfl⟩; rw [← hR] at hbl; obtain ⟨hb1, hb2⟩ := hbl; simp only at hb1 hb2; have HDT := Lib.hid hd; have HP : Hid (∀ (A' : Option Addr) (c' : Nat) (B' : Option Addr) (d' : Nat) (C' : Option Addr) (e' : Nat) (W : World), Below (w.alloc (.cells #[.slice A l.length c, .slice B m.length d, .slice C ps.length e] 51)).heap.size (w.alloc (.cells #[.slice A l.length c, .slice B m.length d, .slice C ps.length e] 51)) W → GR W A' c' l B' d' m C' e' ps → Calls Tryd.prog 20 #[.agg #[.slice A' l.length c', .slice B' m.length d', .slice C' ps.length e']] W (OutB W (R1, R2) (k1, k2, k3))) := Lib.hid (fun A' c' B' d' C' e' W hb hg' => by
  rw [hR, hk, hres]; exact (build_all A' c' l B' d' m C' e' ps W hg' HDT.out (HT.out.below hb) (HET.out.below hb)).mono (fun _ _ h => outB_prog h))
 have HD : Hid (∀ (W : World), Below (w.alloc (.cells #[.slice A l.length c, .slice B m.length d, .slice C ps.length e] 51)).heap.size (w.alloc (.cells #[.slice A l.length c, .slice B m.length d, .slice C ps.length e] 51)) W → Calls Tryd.prog 21 #[.agg #[.slice A l.length c, .slice B m.length d, .slice C ps.length e]] W (OutB W (R1, R2) (k1, k2, k3))) := Lib.hid (fun W hb => by
  rw [hR, hk, hres]; exact (Doc.dbuild_all A c l B d m C e ps W (HG.out.below hb) HDT.out).mono (fun _ _ h => outB_doc h))
 have HRO := Lib.hid (roomy_any A c l B d m C e ps _ HG.out hl hm hd); clear hb0 hg hT het hd hres hR hk HT HET
 go_enter Tryd.func5, Tryd.ntmps5
 go_wp2_with ((with_reducible refine gate_ (.load 51 (.tmp 1)) rfl ?_); refine Hid.out ?_)
 refine Lib.hid ?_; generalize w.alloc (.cells #[.slice A l.length c, .slice B m.length d, .slice C ps.length e] 51) = w1 at *; generalize hgbe : w.heap.size = gb at *; have x0 := zaa HX.out 0; have x1 := zaa HX.out 1; have x2 := zaa HX.out 2; simp at x0 x1 x2
 go_wp2_with (go_at_call 19; refine (HRO.out).mono ?_; rintro e2 w2 ⟨A', c', B', d', C', e', hs, rfl, hro, hb2⟩; refine Hid.out ?_)
 refine Lib.hid ?_; have hba := zac (Below.refl w2.heap.size w2) (.cells #[.slice A' l.length c', .slice B' m.length d', .slice C' ps.length e'] 51); have HRM := Lib.hid (hro.below hba); have HB3 := Lib.hid (zam hb2 hba); have HM3 := Lib.hid (zau w2 (.cells #[.slice A' l.length c', .slice B' m.length d', .slice C' ps.length e'] 51)); clear x0 x1 x2 HRO hro hb2 hba
 go_wp2_with ((with_reducible refine gate_ (.load 51 (.tmp 3)) rfl ?_); refine Hid.out ?_)
 refine Lib.hid ?_; generalize w2.alloc (.cells #[.slice A' l.length c', .slice B' m.length d', .slice C' ps.length e'] 51) = w3 at *; generalize w2.heap.size = mb at *; have y0 := zaa HM3.out 0; have y1 := zaa HM3.out 1; have y2 := zaa HM3.out 2; simp at y0 y1 y2
 go_wp2_with (go_at_call 20; refine (HP.out A' c' B' d' C' e' w3 HB3.out HRM.out.gr).mono ?_; rintro e4 w4 ⟨hb4, A4, c4, B4, d4, rfl, hA4, hB4⟩; refine Hid.out ?_)
 refine Lib.hid ?_; have hba := zac (Below.refl w4.heap.size w4) (.cells #[.slice A4 R1.length c4, .slice B4 R2.length d4] 25); have HA5 := Lib.hid (Kd.zav hA4 hba); have HB5 := Lib.hid (Kd.zav hB4 hba); have HBL5 := Lib.hid (zam HB3.out (zam hb4 hba)); have HRM5 := Lib.hid (HRM.out.below (zam hb4 hba)); have HM5 := Lib.hid (zak HM3.out (zam hb4 hba)); have HT5 := Lib.hid (zau w4 (.cells #[.slice A4 R1.length c4, .slice B4 R2.length d4] 25)); clear y0 y1 y2 hA4 hB4 hb4 hba HRM HM3 HP HB3
 go_wp2_with ((with_reducible refine gate_ (.load 51 (.tmp 1)) rfl ?_); refine Hid.out ?_)
 refine Lib.hid ?_; generalize w4.alloc (.cells #[.slice A4 R1.length c4, .slice B4 R2.length d4] 25) = w5 at *; generalize w4.heap.size = tb at *; have x0 := zaa (zak HX.out HBL5.out) 0; have x1 := zaa (zak HX.out HBL5.out) 1; have x2 := zaa (zak HX.out HBL5.out) 2; simp at x0 x1 x2
 go_wp2_with (go_at_call 21; refine (HD.out w5 HBL5.out).mono ?_; rintro e6 w6 ⟨hb6, A6, c6, B6, d6, rfl, hA6, hB6⟩; refine Hid.out ?_)
 refine Lib.hid ?_
 skip
 have hba := zac (Below.refl w6.heap.size w6) (.cells #[.slice A6 R1.length c6, .slice B6 R2.length d6] 25); have HA7 := Lib.hid (Kd.zav hA6 hba); have HB7 := Lib.hid (Kd.zav hB6 hba); have HBL7 := Lib.hid (zam HBL5.out (zam hb6 hba)); have HRM7 := Lib.hid (HRM5.out.below (zam hb6 hba)); have HM7 := Lib.hid (zak HM5.out (zam hb6 hba)); have HT7 := Lib.hid (zak HT5.out (zam hb6 hba)); have HA57 := Lib.hid (Kd.zav HA5.out (zam hb6 hba)); have HB57 := Lib.hid (Kd.zav HB5.out (zam hb6 hba)); have HU7 := Lib.hid (zau w6 (.cells #[.slice A6 R1.length c6, .slice B6 R2.length d6] 25)); clear x0 x1 x2 hA6 hB6 hb6 hba HRM5 HM5 HT5 HA5 HB5 HD HBL5; have hk1 : (k1 == k1) = true := by simp
 have hk2 : (k2 == k2) = true := by simp
 have hk3 : (k3 == k3) = true := by simp
 go_wp2_with ((with_reducible refine gate_ (.binOp .eql 32 (.tmp 28) (.tmp 29) 32) rfl ?_); refine Hid.out ?_)
 refine Lib.hid ?_; generalize w6.alloc (.cells #[.slice A6 R1.length c6, .slice B6 R2.length d6] 25) = w7 at *; generalize w6.heap.size = ub at *; have t0 := zaa HT7.out 0; have t1 := zaa HT7.out 1; have u0 := zaa HU7.out 0; have u1 := zaa HU7.out 1; simp at t0 t1 u0 u1; have HSA := Lib.hid (same_true A4 c4 R1 B4 d4 R2 A6 c6 B6 d6 w7 HA57.out HB57.out HA7.out HB7.out (by omega) (by omega))
 go_wp2_with (go_at_call 12; refine (HSA.out).mono ?_; rintro e8 w8 ⟨rfl, hb8⟩; refine Hid.out ?_)
 refine Lib.hid ?_; have HBL8 := Lib.hid (zam HBL7.out hb8); have HRM8 := Lib.hid (HRM7.out.below hb8); have HM8 := Lib.hid (zak HM7.out hb8); clear t0 t1 u0 u1 HSA hb8; have y0 := zaa HM8.out 0; have y1 := zaa HM8.out 1; have y2 := zaa HM8.out 2; have x0 := zaa (zak HX.out HBL8.out) 0; have x1 := zaa (zak HX.out HBL8.out) 1; have x2 := zaa (zak HX.out HBL8.out) 2; simp at x0 x1 x2 y0 y1 y2; have HSP := Lib.hid (spared_any A c l B d m C e ps A' c' B' d' C' e' hs w8 (HG.out.below HBL8.out) HRM8.out hl hm HDT.out)
 go_wp2_with (go_at_call 22; refine (HSP.out).mono ?_; rintro e9 w9 ⟨rfl, hb9⟩; refine Hid.out ?_)
 refine Lib.hid ?_; have HBL9 := Lib.hid (zam HBL8.out hb9); clear hb9 x0 x1 x2 y0 y1 y2 HSP
 go_wp2_with fail
 go_ret; refine ⟨rfl, ?_⟩; have h : Below w.heap.size w w9 := zam (by rw [hgbe]; exact HB0.out) HBL9.out
 first | exact h | (rw [← hgbe]; exact h)
end Rm
end Go.Proofs.YtcijanmckhlpiaaDoor
