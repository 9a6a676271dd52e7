-- Texts of this seat, cut to what is used and merged (by shake.py).
import Derived.Test.YtcijanmckhlpiaaDoorSk9
import Derived.Test.YtcijanmckhlpiaaDoorSk10
import Derived.Test.YtcijanmckhlpiaaDoorSk11
import Derived.Carry
import Derived.Deep.Onto
import Derived.Maps.AppendAt
set_option linter.unusedVariables false
set_option linter.unusedSimpArgs false
namespace Go.Proofs.YtcijanmckhlpiaaDoor
open Go.RowKit Go.Proofs.YtcijanmckhlpiaaDoorW.PrintWords Go.Proofs.YtcijanmckhlpiaaDoorW.PrintLast Go.Proofs.YtcijanmckhlpiaaDoorW.PrintMore Go.Proofs.YtcijanmckhlpiaaDoor.PTableBuilds
namespace Bld
theorem gate_ins {P : Program} {ops : Array Oper} {rest : List Oper} {o : Oper} {a : Act} {Q : Exit → Act → World → Prop} {W : World} {t : TypeId} {m k x : Operand} (_ho : o.op = .insert t m k x) (h : wpList P ops Q (o :: rest) a W) : wpList P ops Q (o :: rest) a W := h
theorem insert_own {H : Type} {P : Program} {w : World} {ops : Array Oper} {rest : List Oper} {o : Oper} {a : Act} {Q : Exit → Act → World → Prop}
  (hg : o.guard = none) (hd : o.dst = none) (m x v : Operand) (t : TypeId) (hop : o.op = Op.insert t m x v)
  (k e : TypeId) (K : Maps.Keyed P k) (ht : P.underlying t = some (.map k e)) (R : Value → Option (DataW H × List MemPlace)) (b n : Nat) (D : DataW H)
  (hm : a.eval m = .map (some b)) (hown : w.ownsMap P k R b n D) (hn : n < maxLen) (key val : Value) (kl : Lit) (hx : a.eval x = key) (hv : a.eval v = val) (hkey : keyOf P k key = some kl)
  (d : DataW H) (ps : List MemPlace) (hval : R val = some (d, ps))
  (hK : ∀ w', w'.ownsMap P k R b (n + 1) (D.put kl d) → w.grownBy w' (some b) → wpList P ops Q rest a w') :
  wpList P ops Q (o :: rest) a w := by
 refine wpList_plain hg fun K' hK' => ?_
 obtain ⟨w', hrun, r1, r2⟩ := hown.update K ht hn hkey hval; unfold Oper.wp; have hr : (execOp a.eval o).run P w = .ok .skip w' := by
  unfold execOp; rw [hop]; simp only [hm, hx, hv]; simp [hrun, Result.andThen]
 rw [hr]; show K' (a.put o.dst undef) w'; rw [hd]; exact hK' _ _ (hK w' r1 r2)
theorem lit_one {α : Type} {d : Kd α} {e : Nat} {W : World} {base g : Nat} {p : α} {v : Value} {okp : Nat → Prop} (h1 : d.sz = 1) (hb : W.heap[g]? = some (.cells #[v] e (0, 0))) (hge : base ≤ g) (hM : d.M W base okp p [v]) (hok : ∀ k, okp k → k ≠ g) : d.R e W base tru (.slice (some ⟨g, 0, none⟩) 1 1) [p] := by
 refine ⟨fun _ _ => trivial, [v], ⟨by rw [h1]; rfl, .inr ⟨g, 1, #[v], rfl, hge, hb, Nat.le_refl _, by unfold maxLen; omega, by rw [h1]; rfl, by rw [h1]; rfl⟩⟩, ⟨by rw [h1]; rfl, fun j q hj => ?_⟩⟩
 cases j with
 | zero =>
  have e : p = q := by simpa using hj
  subst e; rw [h1]; exact d.M_mono (fun k hk => ⟨trivial, fun e => hok k hk (by injection e)⟩) hM
 | succ j => simp at hj
theorem closeN_fit {T : Nat} {sp : List S230} {of_ : List (List Nat)} {M : Nat} (hf : FitB T M sp of_) : ∀ (k : Nat) (st : List Nat × List Nat) (r : List Nat), Pot sp.length st → closeN T sp of_ k st = some r → r.length = sp.length ∧ ∀ y ∈ r, y < two64
 | 0, st, r, _, h => by simp [closeN] at h
 | k + 1, (s, todo), r, hp, h => by
  rcases List.eq_nil_or_concat todo with rfl | ⟨td, n, rfl⟩
  ·have e : s = r := by simpa [closeN] using h
   subst e; exact ⟨hp.len, hp.lt⟩
  ·rw [List.concat_eq_append] at hp h; have hpt : Pot sp.length (s, td) := by
    have h2 := hp.pop
    rwa [List.dropLast_concat] at h2
   have hn : n < sp.length := hp.td n (by simp)
   simp only [closeN, List.getLast?_append, List.getLast?_singleton, Option.some_or, List.dropLast_concat] at h
   split at h
   ·exact closeN_fit hf k _ r hpt h
   ·rename_i hs
    refine closeN_fit hf k _ r (Pot.puts (hf.looks_lt hpt.lt hn) _ _ hpt ?_) h; have hsy := hf.sym _ (rdSp_mem hn); exact (hf.starts _ (rdOfs_mem (by have := hf.mlen; omega))).2
theorem keyB_size (l : List S166) : (keyB l).size = (keyS l).length := strOfNums_size _
theorem keyB_max (l : List S166) (h : l.length ≤ 1048576) : (strOfNums (keyS l)).size ≤ maxLen := by
 have h1 := keyB_size l; have h2 := keyS_len l; unfold keyB at h1; unfold maxLen; omega
theorem at_Sl {α : Type} {d : Kd α} {e : Nat} {W : World} {A : Option Addr} {n : Nat} {xs : List (List α)} (h : (Kd.slice e d).C W A n xs) {i : Nat} {x : List α} (hx : xs[i]? = some x) : ∃ ad A0 c0, A = some ad ∧ W.cell? (ad.add i) = some (.slice A0 x.length c0) ∧ x.length ≤ c0 ∧ d.C W A0 x.length x := by
 have hi := (List.getElem?_eq_some_iff.1 hx).1; have hn : xs.length = n := h.1; obtain ⟨ad, c, e', _, hK, hc⟩ := Kd.C_get h [] (i : Int) (Int.natCast_nonneg _) (by omega)
 rw [Int.toNat_natCast] at hK hc; rw [List.getD_eq_getElem?_getD, hx] at hK; obtain ⟨A0, c0, rfl, hl, hC⟩ := hK; refine ⟨ad, A0, c0, e', ?_, hl, hC⟩; have := hc 0 _ rfl
 rwa [show i * (Kd.slice e d).sz + 0 = i by simp [Kd.slice]] at this
theorem R_zeros (W : World) {B : Nat} (hB : B ≤ W.heap.size) (K : Nat) (hK : K ≤ 192) : kI.R 3 (W.alloc (.cells (Array.replicate K (Value.int .i64 0)) 3)) B tru (.slice (some ⟨W.heap.size, 0, none⟩) K K) (List.replicate K 0) := by
 refine Kd.R_of_own (enc := Value.int .i64) ?_ (fun _ _ => trivial)
 rw [List.length_replicate]; refine ⟨by rw [encs_length, List.length_replicate, Nat.mul_one], .inr ⟨W.heap.size, K, _, rfl, hB, zav W _, Nat.le_refl _, by unfold maxLen; omega, by simp, ?_⟩⟩
 unfold encs; rw [Nat.mul_one, Array.toList_replicate, List.take_of_length_le (by simp), List.map_replicate]
theorem Mr.mapped {W W1 : World} {base go bm n : Nat} {D : DU} {vo : List Value} {xs : List (List S166)} (h : Mr W base go vo xs) (hm : OM W bm n D) (hg : W.grownBy W1 (some bm)) : Mr W1 base go vo xs :=
 ⟨zas h.ob hg (fun e => by cases e; exact hm.ne_cells h.ob rfl), h.rows.grown hg (fun j v q hv hq e => by
  cases e; obtain ⟨cells, hc⟩ := h.rows.typed hv hq; exact hm.ne_cells hc rfl)⟩
theorem Mr.hdr {W : World} {base go : Nat} {vo : List Value} {xs : List (List S166)} (h : Mr W base go vo xs) {y : Nat} {x : List S166} (hx : xs[y]? = some x) : ∃ A c, vo[y]? = some (.slice A x.length c) := by
 obtain ⟨hy, _⟩ := List.getElem?_eq_some_iff.1 hx; have hv : vo[y]? = some (vo[y]'(by have := h.rows.len; omega)) := List.getElem?_eq_getElem _
 obtain ⟨A, c, e, _, _⟩ := Kd.zbe (h.rows.row y _ x hv hx); exact ⟨A, c, by rw [hv, e]⟩
theorem Mr.hdrC {W : World} {base go : Nat} {vo : List Value} {xs : List (List S166)} (h : Mr W base go vo xs) {y : Nat} {x : List S166} (hx : xs[y]? = some x) {A : Option Addr} {n c : Nat} (hv : vo[y]? = some (.slice A n c)) : k166.C W A x.length x := (Kd.zbo (h.rows.row y _ x hv hx)).2.2
theorem set_row2 {row : List Int} {y K : Nat} (hl : row.length = y) (a x : Int) : ((row ++ [a]) ++ List.replicate (K - (y + 1)) 0).set y x = (row ++ [x]) ++ List.replicate (K - (y + 1)) 0 := by
 subst hl; rw [List.append_assoc, List.set_append_right _ _ (Nat.le_refl _), Nat.sub_self, List.singleton_append, List.set_cons_zero, List.append_assoc]; rfl
theorem below_step' {w W W1 : World} (h : Below w.heap.size w W) (k : Below W.heap.size W W1) : Below w.heap.size w W1 := zam h k
theorem len_wf {n : Nat} (h : n ≤ 2048) : (Lit.int .i64 (n : Int)).wf = true := by
 have e : wrap64 (n : Int) = (n : Int) := by unfold wrap64; omega
 rw [← e]; exact wrap64_wf _
theorem wf0 : (Lit.int .i64 (0 : Int)).wf = true := len_wf (n := 0) (by decide)
theorem info119 : (Tryd.prog.info? 119).map (fun i => (i.zero, i.size, i.bytes)) = some (some (.slice none 0 0), 1, 24) := by kernel_rfl
abbrev kLs : Kd (List S178) := Kd.slice 178 k178
theorem add_og (og n : Nat) : (⟨og, 0, none⟩ : Addr).add n = ⟨og, n, none⟩ := by
 unfold Addr.add
 split <;> simp_all
theorem R_at {α : Type} {d : Kd α} {e : Nat} {W : World} {base : Nat} {okp : Nat → Prop} {v : Value} {xs : List α} (h : d.R e W base okp v xs) {b : Nat} (hb : v.ownBlock = some b) : ∃ cap, v = .slice (some ⟨b, 0, none⟩) xs.length cap := by
 obtain ⟨h0, inner, ⟨hl, hor⟩, hr⟩ := h; rcases hor with ⟨rfl, _⟩ | ⟨g, cap, cells, rfl, _⟩
 ·simp [Value.ownBlock] at hb
 ·simp [Value.ownBlock] at hb; subst hb; exact ⟨cap, rfl⟩
theorem info169 : (Tryd.prog.info? 169).map (fun i => (i.zero, i.size, i.bytes)) = some (some (.slice none 0 0), 1, 24) := by kernel_rfl
theorem drop_of_get {α : Type} {xs : List α} {y : Nat} {x : α} (h : xs[y]? = some x) : xs.drop y = x :: xs.drop (y + 1) := by
 obtain ⟨hy, he⟩ := List.getElem?_eq_some_iff.1 h; rw [List.drop_eq_getElem_cons hy, he]
theorem set_row {row : List Int} {y K : Nat} (hy : y < K) (hl : row.length = y) (x : Int) : (row ++ List.replicate (K - y) 0).set y x = (row ++ [x]) ++ List.replicate (K - (y + 1)) 0 := by
 subst hl; rw [List.set_append_right _ _ (Nat.le_refl _), Nat.sub_self, List.append_assoc]
 congr 1
 rw [show K - row.length = (K - (row.length + 1)) + 1 by omega, List.replicate_succ, List.set_cons_zero]
 rfl
theorem fitM_moved {sp : List S230} {s : List Nat} {y : Nat} (hN : sp.length ≤ 1048576) (hl : s.length = sp.length) (hlt : ∀ x ∈ s, x < two64) (hnx : ∀ i, i + 1 = sp.length → (rdSp sp i).f2 < 0) : FitM sp.length (marksOf sp s y s.length) := by
 have hmem : ∀ m ∈ marksOf sp s y s.length, ∃ i, i < s.length ∧ (rdSp sp i).f2 = (y : Int) ∧ m = ⟨((i + 1 : Nat) : Int), ((fst s i : Nat) : Int)⟩ := by
  intro m hm; unfold marksOf at hm; rw [List.mem_filterMap] at hm; obtain ⟨i, hi, hm⟩ := hm; rw [List.mem_range] at hi
  split at hm
  ·rename_i h
   cases hm; exact ⟨i, hi, h.2, rfl⟩
  ·cases hm
 refine ⟨Nat.le_trans (marksOf_len sp s y s.length) (by omega), fun m hm => ?_, fun m hm => ?_⟩
 ·obtain ⟨i, hi, hy, rfl⟩ := hmem m hm; have h1 : i + 1 ≠ sp.length := fun e => by have := hnx i e; omega
  show 0 ≤ ((i + 1 : Nat) : Int) ∧ ((i + 1 : Nat) : Int) < (sp.length : Int); omega
 ·obtain ⟨i, hi, hy, rfl⟩ := hmem m hm; have := fst_lt hlt i; unfold two64 at this; show 0 ≤ ((fst s i : Nat) : Int) ∧ ((fst s i : Nat) : Int) < 18446744073709551616; omega
def RetSets (w : World) (sp : List S230) (res : Option (List (List Nat) × List (List Int))) (e : Ending) (w' : World) : Prop := Below w.heap.size w w' ∧ match res with
 | none => e = .returned (.tuple #[.slice none 0 0, .slice none 0 0, .int .i64 120])
 | some (ss, gs) => ∃ A c B d, e = .returned (.tuple #[.slice A ss.length c, .slice B gs.length d, .int .i64 0]) ∧ (Kd.slice 178 k178).C w' A ss.length (ss.map fun s => listN sp s s.length) ∧ kGo.C w' B gs.length gs
set_option maxRecDepth 100000 in
set_option maxHeartbeats 4000000 in
theorem sets_any (A : Option Addr) (c : Nat) (l : List S112) (B : Option Addr) (d : Nat) (m : List S115) (C : Option Addr) (e : Nat) (ps : List S77) (w : World)
  (hg : GR w A c l B d m C e ps) (hf : Fair l.length m.length ps) (kr : Nat) (hri : items_right.f kr l m ps = some true) (k : Nat) (s : FV) (hk : solveN l.length ps k (initF l.length, noV) = some s) (hfit : Fit s) (hT : Tab64 w)
  (hfb : FitB l.length m.length (zbf s.1 s.2 0 ps) (ofAll m.length ps)) (hnx : ∀ i, i + 1 = (zbf s.1 s.2 0 ps).length → (rdSp (zbf s.1 s.2 0 ps) i).f2 < 0) (hp0 : 0 < ps.length) (kf kg : Nat) (res : Option (List (List Nat) × List (List Int))) (hres : setsN l.length m.length (zbf s.1 s.2 0 ps) (ofAll m.length ps) kf kg = some res) :
  Calls Tryd.prog 40 #[.agg #[.slice A l.length c, .slice B m.length d, .slice C ps.length e]] w (RetSets w (zbf s.1 s.2 0 ps) res) := by
 have HG := Lib.hid hg; have HF := Lib.hid hf; have HRI := Lib.hid hri; have HK := Lib.hid hk; have HFT := Lib.hid hfit; have HTB := Lib.hid hT; have HFB := Lib.hid hfb; have HNX := Lib.hid hnx; have t1 := hf.t1; have t64 := hf.t64; have m128 := hf.m128; have hspl : 0 < (zbf s.1 s.2 0 ps).length := by
  rw [spotsS_len]; have := dots_len ps; omega
 have hN := hfb.n20; generalize hsp : zbf s.1 s.2 0 ps = sp at *; generalize hof : ofAll m.length ps = of_ at *; have HSP := Lib.hid hsp; have HOF := Lib.hid hof; have HRES := Lib.hid hres; have hbA := zab (Below.refl w.heap.size w) (.cells #[.slice A l.length c, .slice B m.length d, .slice C ps.length e] 51); have HG1 := Lib.hid (hg.below hbA); have HX0 := Lib.hid (zav w (.cells #[.slice A l.length c, .slice B m.length d, .slice C ps.length e] 51)); have HBA := Lib.hid hbA; clear hg hf hri hk hfit hT hfb hnx hbA hsp hof hres
 go_enter Tryd.func40, Tryd.ntmps40
 go_wp2_with (go_at_call 63; refine (items_right.calls kr A c l B d m C e ps true _ HG1.out.hA HG1.out.cA HG1.out.hB HG1.out.cB HG1.out.hC HG1.out.cC HRI.out).mono ?_; rintro e1 w1 ⟨rfl, hb1⟩; refine Hid.out ?_)
 refine Lib.hid ?_; have HX1 := Lib.hid (zal HX0.out hb1); have HB1 := Lib.hid (zam HBA.out hb1); clear HX0 HBA HG1 hb1; have hg0 := zac HX1.out 0; have hg1 := zac HX1.out 1; have hg2 := zac HX1.out 2; simp at hg0 hg1 hg2
 go_wp2_with (go_at_call 64; refine (newBook_any A c l B d m C e ps _ (HG.out.below HB1.out) HF.out k s HK.out HFT.out).mono ?_; rintro e2 w2 ⟨gb, rfl, hbk⟩; refine Hid.out ?_)
 refine Lib.hid ?_; obtain ⟨go, vsp, vat, vo, hbk⟩ := hbk.x; rw [HSP.out, HOF.out] at hbk; have HX2 := Lib.hid (zal HX1.out hbk.below); have HB2 := Lib.hid (zam HB1.out hbk.below); clear hg0 hg1 hg2 HX1; obtain ⟨As, cs, rfl, hcs, hCs⟩ := Kd.zbe hbk.sp; have hofl : of_.length = m.length := HFB.out.mlen; have hvl : vo.length = m.length := by rw [hbk.of_.len, hofl]
 have HBR : Hid (BookR w2 gb A l.length c B m.length d (.slice C ps.length e) vat As cs sp (some ⟨go, 0, none⟩) m.length of_) := Lib.hid ⟨by have h := hbk.bk; rw [hofl]; exact h, hCs, hbk.of_.reads hbk.ob (by omega), hcs⟩
 clear hbk hCs hcs hofl hvl HB1; have hres := HRES.out; unfold setsN at hres; obtain ⟨r0, hr0⟩ : ∃ r0, closeN l.length sp of_ kf (marksS startL (List.replicate sp.length 0, [])) = some r0 := by
  cases h : closeN l.length sp of_ kf (marksS startL (List.replicate sp.length 0, [])) with
  | none => rw [h] at hres; cases hres
  | some r => exact ⟨r, rfl⟩
 rw [hr0] at hres; have HGI : Hid (goI l.length m.length sp of_ kf kg 0 ([r0], [keyB startL]) [] = some res) := Lib.hid hres; have HR0 := Lib.hid hr0; have hsm : FitM sp.length startL := ⟨by decide, fun q hq => by rw [List.mem_singleton.1 hq]; exact ⟨by decide, by show (0 : Int) < _; omega⟩, fun q hq => by rw [List.mem_singleton.1 hq]; exact ⟨by decide, by decide⟩⟩
 have HSM := Lib.hid hsm; have HF0 := Lib.hid (closeN_fit HFB.out kf _ r0 (Pot.marks startL _ (Pot.init sp.length) hsm.spot hsm.looks) hr0); have HBA := Lib.hid (zab (Below.refl w2.heap.size w2) (.cells #[.int .i64 0, .int .u64 1] 166)); have hst := C_lit1 (k := k166) (x := ⟨0, 1⟩) (cs := [.int .i64 0, .int .u64 1]) (k166_mk _ _) (zav w2 (.cells #[.int .i64 0, .int .u64 1] 166)); have HST0 : Hid (k166.C (w2.alloc (.cells #[.int .i64 0, .int .u64 1] 166)) (some ⟨w2.heap.size, 0, none⟩) startL.length startL) := Lib.hid hst; clear hres hr0 hsm hst HRES
 go_wp2_with (go_at_call 65; refine (closed_any gb A l.length c B m.length d (.slice C ps.length e) vat As cs sp (some ⟨go, 0, none⟩) m.length of_ _ (HBR.out.below HBA.out) HFB.out t64 m128 (some ⟨w2.heap.size, 0, none⟩) 1 startL HST0.out HSM.out kf r0 HR0.out).mono ?_; rintro e3 w4 ⟨v0, rfl, hrv, hb4⟩; refine Hid.out ?_)
 refine Lib.hid ?_; have HB3 := Lib.hid (zab HB2.out (.cells #[.int .i64 0, .int .u64 1] 166)); have HBR3 := Lib.hid (HBR.out.below HBA.out); have HX3 := Lib.hid (zad HX2.out (.cells #[.int .i64 0, .int .u64 1] 166)); clear HB2 HBR HX2 HBA; generalize hsl : w2.heap.size = sl at *; generalize w2.alloc (.cells #[.int .i64 0, .int .u64 1] 166) = w3 at *; have HB4 := Lib.hid hb4; obtain ⟨A0, c0, rfl, -, -⟩ := Kd.zbe hrv; have HRV := Lib.hid hrv; clear hrv hb4; have HST4 := Lib.hid (Kd.zaw HST0.out (zam HB4.out (zab (zab (Below.refl w4.heap.size w4) (.cells #[.slice A0 r0.length c0] 169)) (.map #[] 0)))); have hsets : kSets.R 169 ((w4.alloc (.cells #[.slice A0 r0.length c0] 169)).alloc (.map #[] 0)) w3.heap.size tru (.slice (some ⟨w4.heap.size, 0, none⟩) 1 1) [r0] := by
  have hr := Kd.zba (Kd.zba (Kd.zbg (Kd.R_bound HRV.out) (fun k hk => hk.2.2.1)) (.cells #[.slice A0 r0.length c0] 169)) (.map #[] 0)
  exact lit_one rfl (zad (zav w4 _) _) HB4.out.size ⟨_, rfl, hr⟩ (fun k hk => Nat.ne_of_lt hk)
 have HSETS := Lib.hid hsets; have hom : OM ((w4.alloc (.cells #[.slice A0 r0.length c0] 169)).alloc (.map #[] 0)) (w4.heap.size + 1) 0 (.map []) := by
  have h := World.ownsMap_made (H := Unit) (w4.alloc (.cells #[.slice A0 r0.length c0] 169)) Tryd.prog 9 (plainElem (H := Unit) Tryd.prog 3); rw [szA] at h; exact h
 have HOM := Lib.hid hom; have HB5 := Lib.hid (zab (zab HB4.out (.cells #[.slice A0 r0.length c0] 169)) (.map #[] 0)); have hbm : w4.heap.size + 1 < ((w4.alloc (.cells #[.slice A0 r0.length c0] 169)).alloc (.map #[] 0)).heap.size := by rw [szA, szA]; omega
 clear hsets hom HRV; have hmm := @run_makeMap Tryd.prog
 go_wp2_with (go_at_call 66; refine (key_any _ (some ⟨sl, 0, none⟩) 1 startL HST4.out sp.length hN HSM.out).mono ?_; rintro e6 w6 ⟨rfl, hb6⟩; refine Hid.out ?_)
 refine Lib.hid ?_; clear hmm; generalize hbmE : w4.heap.size + 1 = bm at *; have hbmge : w3.heap.size ≤ bm := by have := HB4.out.size; omega
 have HOM6 := Lib.hid (HOM.out.below hb6 hbm); have HSETS6 := Lib.hid (Kd.zbi HSETS.out hb6); have HB6 := Lib.hid (zam HB5.out hb6); clear hb6 HOM HSETS HST4 HB5 HB4 hbm; have hks : (strOfNums (keyS startL)).size ≤ maxLen := keyB_max startL (by decide)
 have hkey := WideMaps.keyOf_string_mk (P := Tryd.prog) Tryd.underlying9 hks
 go_wp2_with (((with_reducible refine gate_ins rfl ?_)); refine Hid.out ?_)
 refine Lib.hid ?_; refine insert_own rfl rfl _ _ _ 103 rfl 9 3 (Maps.string_keyed Tryd.underlying9) Tryd.underlying103 (plainElem (H := Unit) Tryd.prog 3) bm 0 _ rfl HOM6.out (by decide) _ _ (kl (keyB startL)) rfl rfl hkey (.lit (.int .i64 0)) [] (plainElem_int Tryd.underlying3 wf0) ?_
 intro w7 hm7 hg7; have HSX : Hid (Sx w3 w7 bm 1 ((.map [] : DU).put (kl (keyB startL)) (.lit (.int .i64 0))) (.slice (some ⟨w4.heap.size, 0, none⟩) 1 1) (.slice none 0 0) (.slice none 0 0) ([r0], [keyB startL]) []) := Lib.hid
  ⟨below_mapped HB6.out hg7 hbmge, hm7, KM.start _, hbmge, rfl, R_mapped HSETS6.out HOM6.out hg7, Kd.R_nil _ _ _ _ _⟩
 have HTB3 := Lib.hid (HTB.out.below HB3.out); clear hm7 hg7 HOM6 HSETS6 HB6 hkey hks HST0 HSM HR0; have HL0 : Hid (∀ q ∈ [r0], q.length = sp.length ∧ ∀ y ∈ q, y < two64) := Lib.hid (fun q hq => by rw [List.mem_singleton.1 hq]; exact HF0.out)
 clear HF0
 go_wp2_with fail
 go_loopg [7, 9, 10] kg (fun kq v7 v9 v10 w' => ∃ (i : Nat) (D : DU) (A7 : Option Addr) (c7 : Nat) (A9 : Option Addr) (n9 c9 : Nat) (st : SK) (gs : List (List Int)), v10 = .int .i64 (i : Int) ∧ v7 = .slice A7 st.1.length c7 ∧ v9 = .slice A9 n9 c9 ∧ kq ≤ kg ∧ i ≤ 2048 ∧ st.1.length ≤ 2048 ∧ Hid (gs.length = i) ∧ Hid (goI l.length m.length sp of_ kf kq i st gs = some res) ∧ Hid (∀ q ∈ st.1, q.length = sp.length ∧ ∀ y ∈ q, y < two64) ∧ Hid (Sx w3 w' bm st.2.length D (.slice A7 st.1.length c7) (.slice A9 n9 c9) (.slice none 0 0) st gs))
 case atStart => exact ⟨0, _, _, _, _, _, _, ([r0], [keyB startL]), [], rfl, rfl, rfl, Nat.le_refl _, Nat.zero_le _, (show 1 ≤ 2048 by decide), Lib.hid rfl, HGI, HL0, HSX⟩
 case round =>
  clear HGI HL0 HSX; obtain ⟨i, D, A7, c7, A9, n9, c9, st, gs, rfl, rfl, rfl, hkq, hi, hst, HGL, HGI, HL, HSX⟩ := hrel; obtain ⟨ss, keys⟩ := st; simp only at hi hst HSX HL; obtain ⟨st0, hst0⟩ : ∃ st0, st0 = (ss, keys) := ⟨_, rfl⟩; by_cases hil : i < ss.length
  ·have hib : decide ((i : Int) < (ss.length : Int)) = true := decide_eq_true (by omega)
   have hi0 : (0 : Int) ≤ (i : Int) := by omega
   have hi1 : (i : Int) < (ss.length : Int) := by omega
   have hiw : IntKind.i64.wrap ((i : Int) + 1) = (i : Int) + 1 := IntWalk.i64_in _ (by omega)
   obtain ⟨K, hK⟩ : ∃ K, K = l.length + m.length := ⟨_, rfl⟩; have hK192 : K ≤ 192 := by omega
   have hw0 : IntKind.i64.wrap ((l.length : Int) + (m.length : Int)) = (K : Int) := by rw [IntWalk.i64_in _ (by omega)]; omega
   have hmk : ∀ W : World, (Instr.makeSlice 95 (.int .i64 (K : Int)) (.int .i64 (K : Int))).run Tryd.prog W = .ok (.slice (some ⟨W.heap.size, 0, none⟩) K K) (W.alloc (.cells (Array.replicate K (Value.int .i64 0)) 3)) := fun W => by
    rw [← List.toArray_replicate, ← made_one]; exact run_make_row' 95 3 (.int .i64 0) 8 Tryd.underlying95 info3 rfl .i64 .i64 K (by omega) (by omega) W
   have HKE := Lib.hid hK; have HXW := Lib.hid (zal HX3.out HSX.out.below); have g0 := zac HXW.out 0; have g1 := zac HXW.out 1; simp at g0 g1; obtain ⟨si, hsi⟩ : ∃ si, ss[i]? = some si := ⟨_, List.getElem?_eq_getElem hil⟩; have HSI := Lib.hid hsi; obtain ⟨hsl0, hslt⟩ := HL.out si (List.mem_of_getElem? hsi); have HSLT := Lib.hid hslt; obtain ⟨hn7, hc7, hC7⟩ := Kd.zbo HSX.out.sets; obtain ⟨ad7, A5, c5, rfl, s0, -, hC5⟩ := at_Sl (d := kU) (e := 128) hC7 (i := i) hsi; have HC5 := Lib.hid hC5; have HSR := Lib.hid ((HSX.out.row (v1 := .slice (some ⟨wr.heap.size, 0, none⟩) K K) (fun q hq => by simp [Value.ownBlock] at hq; omega)).alloc (.cells (Array.replicate K (Value.int .i64 0)) 3))
   have HRW := Lib.hid (R_zeros wr HSX.out.below.size K (by omega))
   clear hK hsi hslt hn7 hc7 hC7 hC5; have s1 := zat (zab (Below.refl wr.heap.size wr) (.cells (Array.replicate K (Value.int .i64 0)) 3)) s0; have HMVC := Lib.hid (moved_any gb A l.length c B m.length d (.slice C ps.length e) vat As cs sp (some ⟨go, 0, none⟩) m.length of_ (wr.alloc (.cells (Array.replicate K (Value.int .i64 0)) 3)) (HBR3.out.below HSR.out.below) HFB.out t64 m128 A5 c5 si (Kd.C_alloc HC5.out _) hsl0 HSLT.out); have HSL0 := Lib.hid hsl0; clear hsl0
   go_wp2_with (go_at_call 67; refine (HMVC.out).mono ?_; rintro e8 w8 ⟨gm, vm, rfl, hMr, hb8⟩; refine Hid.out ?_)
   refine Lib.hid ?_; have HSX8 := Lib.hid (HSR.out.bel hb8); have HRW8 := Lib.hid (Kd.zbi HRW.out hb8); have HMR := Lib.hid hMr; clear hmk hw0 g0 g1 s0 s1 HMVC HC5 HXW HSR HRW hMr hb8; generalize hrb : wr.heap.size = rb at *; rw [← HKE.out]; generalize hbw : (wr.alloc (.cells (Array.replicate K (Value.int .i64 0)) 3)).heap.size = bw at *; have HGY : Hid (goY l.length sp of_ kf ((movedN K sp si si.length).drop 0) [] (ss, keys) = goY l.length sp of_ kf (movedN K sp si si.length) [] st0) := Lib.hid (by rw [List.drop_zero, hst0])
   have HST0 := Lib.hid hst0; clear hst0; rw [← HKE.out] at HMR
   go_wp2_with fail
   go_loopw [7, 56] (fun v7 v w' => ∃ (y : Nat) (D : DU) (st : SK) (row : List Int) (A7 : Option Addr) (c7 : Nat), v = .int .i64 (y : Int) ∧ v7 = .slice A7 st.1.length c7 ∧ y ≤ K ∧ st.1.length ≤ 2048 ∧ Hid (row.length = y) ∧ Hid (goY l.length sp of_ kf ((movedN K sp si si.length).drop y) row st = goY l.length sp of_ kf (movedN K sp si si.length) [] st0) ∧ Hid (∀ q ∈ st.1, q.length = sp.length ∧ ∀ y ∈ q, y < two64) ∧ Hid (Sx w3 w' bm st.2.length D (.slice A7 st.1.length c7) (.slice A9 n9 c9) (.slice (some ⟨rb, 0, none⟩) K K) st gs) ∧ Hid (kI.R 3 w' w3.heap.size tru (.slice (some ⟨rb, 0, none⟩) K K) (row ++ List.replicate (K - y) 0)) ∧ Hid (Mr w' bw gm vm (movedN K sp si si.length))) (fun _ v _ => K - (intOf v).toNat)
   case atStart => exact ⟨0, D, (ss, keys), [], _, _, rfl, rfl, Nat.zero_le _, hst, Lib.hid rfl, HGY, HL, HSX8, HRW8, HMR⟩
   case round =>
    clear HGY HL HSX8 HRW8 HMR HSX; obtain ⟨y, D, st, row, A7, c7, rfl, rfl, hy, hst, HRL, HGY, HL, HSX, HRW, HMR⟩ := hrel; obtain ⟨ss, keys⟩ := st; simp only at hst HSX HL HGY; by_cases hyl : y < K
    ·have hml : (movedN K sp si si.length)[y]? = some (marksOf sp si y si.length) := movedN_get hyl; obtain ⟨Aml, cml, hvm⟩ := HMR.out.hdr hml; have h0 : wr.cell? ⟨gm, y, none⟩ = some (.slice Aml (marksOf sp si y si.length).length cml) := (zac HMR.out.ob y).trans (by rw [List.getElem?_toArray]; exact hvm)
     have HFM := Lib.hid (fitM_moved (sp := sp) (s := si) (y := y) hN HSL0.out HSLT.out HNX.out); have hgy := HGY.out; rw [drop_of_get hml] at hgy; have HGY1 := Lib.hid hgy; obtain ⟨mb, hmb⟩ := Kd.R_typed HRW.out rb rfl; have hrwc := Kd.R_celln 0 HRW.out (y : Int) (Int.natCast_nonneg _) (by omega)
     rw [Int.toNat_natCast] at hrwc; obtain ⟨r1, r1f⟩ := hrwc; have HSX1 := Lib.hid (HSX.out.rowSet rfl HRW.out y (.int .i64 (-1))); have HMR1 := Lib.hid (HMR.out.set hmb (by decide) (by decide) y (.int .i64 (-1)))
     have hrw1 := Kd.R_putn HRW.out (y : Int) (-1); rw [Int.toNat_natCast, set_row hyl HRL.out] at hrw1; have HRW1 := Lib.hid hrw1; have HCM := Lib.hid (HMR1.out.hdrC hml hvm); have HVM := Lib.hid hvm; have HML := Lib.hid hml; have hib2 : decide ((y : Int) < (K : Int)) = true := decide_eq_true (by omega)
     have hy0 : (0 : Int) ≤ (y : Int) := Int.natCast_nonneg _; have hy1 : (y : Int) < (K : Int) := by omega
     have hyw : IntKind.i64.wrap ((y : Int) + 1) = (y : Int) + 1 := IntWalk.i64_in _ (by omega)
     have hy2 : y + 1 ≤ K := hyl; have hme : K - (y + 1) < K - y := by omega
     have HRL1 : Hid ((row ++ [-1]).length = y + 1) := Lib.hid (by rw [List.length_append, HRL.out]; rfl)
     clear hml hgy HGY hrw1 hvm HSX HMR HRW hmb; generalize marksOf sp si y si.length = ml at *; cases ml with
     | nil =>
      have HGY2 : Hid (goY l.length sp of_ kf ((movedN K sp si si.length).drop (y + 1)) (row ++ [-1]) (ss, keys) = goY l.length sp of_ kf (movedN K sp si si.length) [] (st0)) := HGY1; have hle : ((0 : Int) == 0) = true := rfl
      go_wp2_with fail
      go_roundw
      case rel => first | exact ⟨y + 1, D, (ss, keys), _, _, _, by rw [Int.natCast_add]; rfl, rfl, hy2, hst, HRL1, HGY2, HL, HSX1, HRW1, HMR1⟩ | ((repeat apply Exists.intro); exact ⟨⟨y + 1, D, (ss, keys), _, _, _, by rw [Int.natCast_add]; rfl, rfl, hy2, hst, HRL1, HGY2, HL, HSX1, HRW1, HMR1⟩, rfl⟩)
      case measure => exact hme
     | cons mk ms =>
      have HGYc : Hid ((match ixB (keyB (mk :: ms)) keys with
       | some n => goY l.length sp of_ kf ((movedN K sp si si.length).drop (y + 1)) (row ++ [(n : Int)]) (ss, keys)
       | none => if ss.length = 2048 then some none else match closeN l.length sp of_ kf (marksS (mk :: ms) (List.replicate sp.length 0, [])) with
        | none => none
        | some r => goY l.length sp of_ kf ((movedN K sp si si.length).drop (y + 1)) (row ++ [(ss.length : Int)]) (ss ++ [r], keys ++ [keyB (mk :: ms)])) = goY l.length sp of_ kf (movedN K sp si si.length) [] st0) := HGY1
      have hl0 : 0 < (mk :: ms).length := by simp
      clear HGY1; generalize mk :: ms = ml at *; have hle : (((ml.length : Nat) : Int) == 0) = false := by rw [beq_eq_false_iff_ne]; omega
      have hle2 : ((ml.length : Int) = 0) = False := propext ⟨fun h => by omega, False.elim⟩
      go_wp2_with (go_at_call 66; refine (key_any _ Aml cml ml HCM.out sp.length hN HFM.out).mono ?_; rintro e6 wk ⟨rfl, hbk6⟩; refine Hid.out ?_)
      refine Lib.hid ?_; have HSX2 := Lib.hid (HSX1.out.bel hbk6); have HRW2 := Lib.hid (Kd.zbi HRW1.out hbk6); have HMR2 := Lib.hid (HMR1.out.bel hbk6); clear HSX1 HRW1 HMR1 HCM hbk6 h0 r1 r1f hle hle2; have hks := keyB_max ml HFM.out.len; obtain ⟨mb2, hmb2⟩ := Kd.R_typed HRW2.out rb rfl; have hrwc := Kd.R_celln 0 HRW2.out (y : Int) (Int.natCast_nonneg _) hy1; rw [Int.toNat_natCast] at hrwc; obtain ⟨r1, r1f⟩ := hrwc; cases hix : ixB (keyB ml) keys with
      | some n =>
       have hlk := look_yes HSX2.out.map HSX2.out.km (strOfNums (keyS ml)) hks hix; have HGY2 : Hid (goY l.length sp of_ kf ((movedN K sp si si.length).drop (y + 1)) (row ++ [(n : Int)]) (ss, keys) = goY l.length sp of_ kf (movedN K sp si si.length) [] st0) := Lib.hid (by
        have h := HGYc.out; rw [hix] at h; exact h)
       have HSX3 := Lib.hid (HSX2.out.rowSet rfl HRW2.out y (.int .i64 (n : Int))); have HMR3 := Lib.hid (HMR2.out.set hmb2 (by decide) (by decide) y (.int .i64 (n : Int)))
       have hrw3 := Kd.R_putn HRW2.out (y : Int) (n : Int); rw [Int.toNat_natCast, set_row2 HRL.out] at hrw3; have HRW3 := Lib.hid hrw3; have HRL3 : Hid ((row ++ [(n : Int)]).length = y + 1) := Lib.hid (by rw [List.length_append, HRL.out]; rfl)
       clear hix hrw3 HSX2 HMR2 HRW2 HGYc hmb2 hks
       go_wp2_with fail
       go_roundw
       case rel => first | exact ⟨y + 1, D, (ss, keys), _, _, _, by rw [Int.natCast_add]; rfl, rfl, hy2, hst, HRL3, HGY2, HL, HSX3, HRW3, HMR3⟩ | ((repeat apply Exists.intro); exact ⟨⟨y + 1, D, (ss, keys), _, _, _, by rw [Int.natCast_add]; rfl, rfl, hy2, hst, HRL3, HGY2, HL, HSX3, HRW3, HMR3⟩, rfl⟩)
       case measure => exact hme
      | none =>
       obtain ⟨cz, hlk⟩ := look_no HSX2.out.map HSX2.out.km (strOfNums (keyS ml)) hks hix; have HIX := Lib.hid hix; by_cases h2048 : ss.length = 2048
       ·have hln : (((ss.length : Nat) : Int) == 2048) = true := by rw [h2048]; rfl
        have hres : res = none := by
         have h := HGYc.out; rw [hix] at h; simp only [h2048, if_true] at h; have h2 := HGI.out; rw [← HST0.out] at h2; cases gk with
         | zero => simp [goI] at h2
         | succ g =>
          unfold goI at h2; have h3 : st0.1[i]? = some si := by rw [HST0.out]; exact HSI.out
          rw [h3] at h2; simp only at h2; rw [← HKE.out, ← h] at h2
          simpa using h2.symm
        have HRES := Lib.hid hres; have HBE := Lib.hid (below_step' HB3.out HSX2.out.below); clear hix h2048 hres HSX2 HMR2 HRW2 HGYc hmb2 hks
        go_wp2_with fail
        go_ret3; have hr := HRES.out; subst hr; exact ⟨HBE.out, rfl⟩
       ·have hln : (((ss.length : Nat) : Int) == 2048) = false := by rw [beq_eq_false_iff_ne]; omega
        have hst2 : ss.length + 1 ≤ 2048 := by omega
        obtain ⟨r, hr⟩ : ∃ r, closeN l.length sp of_ kf (marksS ml (List.replicate sp.length 0, [])) = some r := by
         cases hc : closeN l.length sp of_ kf (marksS ml (List.replicate sp.length 0, [])) with
         | some r => exact ⟨r, rfl⟩
         | none =>
          exfalso; have h := HGYc.out; rw [hix] at h; simp only [h2048, if_false, hc] at h; have h2 := HGI.out; rw [← HST0.out] at h2; cases gk with
          | zero => simp [goI] at h2
          | succ g =>
           unfold goI at h2; have h3 : st0.1[i]? = some si := by rw [HST0.out]; exact HSI.out
           rw [h3] at h2; simp only at h2; rw [← HKE.out, ← h] at h2; cases h2
        have HGY2 : Hid (goY l.length sp of_ kf ((movedN K sp si si.length).drop (y + 1)) (row ++ [(ss.length : Int)]) (ss ++ [r], keys ++ [keyB ml]) = goY l.length sp of_ kf (movedN K sp si si.length) [] st0) := Lib.hid (by
         have h := HGYc.out; rw [hix] at h; simp only [h2048, if_false, hr] at h; exact h)
        have HR := Lib.hid hr; have HFR := Lib.hid (closeN_fit HFB.out kf _ r (Pot.marks ml _ (Pot.init sp.length) HFM.out.spot HFM.out.looks) hr); have hkl : keys.length = ss.length := HSX2.out.len; have hkey := WideMaps.keyOf_string_mk (P := Tryd.prog) Tryd.underlying9 hks; have HKL := Lib.hid hkl; clear hix hr h2048 HGYc hkl
        go_wp2_with ((at_mapUpdate); refine Hid.out ?_)
        refine Lib.hid ?_; have hwf := len_wf (show ss.length ≤ 2048 by omega)
        have hnm : keys.length < maxLen := by rw [HKL.out]; unfold maxLen; omega
        refine wpList_mapUpdate_own _ rfl _ _ _ 103 rfl 9 3 (Maps.string_keyed Tryd.underlying9) Tryd.underlying103 _ bm _ _ rfl HSX2.out.map hnm _ _ _ rfl rfl hkey _ [] (plainElem_int Tryd.underlying3 hwf) ?_; intro wm hm7 hg7; obtain ⟨hbm7, hs7, hgo7⟩ := HSX2.out.mapped hg7; have HMR7 := Lib.hid (HMR2.out.mapped HSX2.out.map hg7); have HRW7 := Lib.hid (R_mapped HRW2.out HSX2.out.map hg7); have hkm7 := HSX2.out.km.step HIX.out; rw [HKL.out] at hkm7; have HKM7 := Lib.hid hkm7; have HOM7 := Lib.hid hm7; have HB7 := Lib.hid hbm7; have HS7 := Lib.hid hs7; have HGO7 := Lib.hid hgo7; have HCM7 := Lib.hid (HMR7.out.hdrC HML.out HVM.out); have HBR7 := Lib.hid (HBR3.out.below HB7.out); clear hm7 hg7 hbm7 hs7 hgo7 hkm7 HSX2 HMR2 HRW2 hmb2 r1 r1f hlk hkey hks hwf hnm
        go_wp2_with (go_at_call 65; refine (closed_any gb A l.length c B m.length d (.slice C ps.length e) vat As cs sp (some ⟨go, 0, none⟩) m.length of_ _ HBR7.out HFB.out t64 m128 Aml cml ml HCM7.out HFM.out kf r HR.out).mono ?_; rintro e8 wc ⟨vr, rfl, hrv, hbc⟩; refine Hid.out ?_)
        refine Lib.hid ?_; obtain ⟨Ar, cr, rfl, -, -⟩ := Kd.zbe hrv; have hMv : kSets.M wc w3.heap.size (fun q => some q ≠ (Value.slice A7 ss.length c7).ownBlock) r [.slice Ar r.length cr] := ⟨_, rfl, Kd.R_lower (Kd.zbg (Kd.R_bound hrv) (fun q hq e => by
         have h1 := Kd.R_lt HS7.out q e.symm; have h2 := hq.2.1; omega)) HB7.out.size⟩
        have HMV := Lib.hid hMv; have HB8 := Lib.hid (zam HB7.out hbc); have HS8 := Lib.hid (Kd.zbi HS7.out hbc); have HGO8 := Lib.hid (Kd.zbi HGO7.out hbc); have HRW8 := Lib.hid (Kd.zbi HRW7.out hbc); have HMR8 := Lib.hid (HMR7.out.bel hbc); have HOM8 := Lib.hid (OM.below HOM7.out hbc (by obtain ⟨es, ck, hh⟩ := OM.blk HOM7.out; exact (Array.getElem?_eq_some_iff.1 hh).1))
        have hbo : (ss.length + 1) * 24 ≤ 140737488355328 := by omega
        clear hrv hMv hbc HB7 HS7 HGO7 HRW7 HMR7 HOM7 HCM7 HBR7
        go_wp2_with ((with_reducible refine zax (b := .append) (xs := #[.tmp 85, .tmp 89]) rfl ?_); refine Hid.out ?_)
        refine Lib.hid ?_
        at_builtin
        refine Kd.R_append kSets (w0 := w3) (W := wc) w3.heap.size rfl (.tmp 85) (.tmp 89) 171 169 (.slice none 0 0) 24 rfl Tryd.underlying171 info169 rfl (by decide) (by decide) (.slice A7 ss.length c7) ss r [.slice Ar r.length cr] tru (fun q => some q ≠ (Value.slice A7 ss.length c7).ownBlock) rfl rfl HMV.out (fun _ hk => ⟨trivial, hk⟩) (fun _ _ => trivial) HS8.out HB8.out HB8.out.size hbo ?_
        intro v9 ws ho9 hb9 hg9 hat9; have hS9 : Sx w3 ws bm (keys.length + 1) (D.put (kl (keyB ml)) (.lit (.int .i64 (ss.length : Int)))) v9 (.slice A9 n9 c9) (.slice (some ⟨rb, 0, none⟩) K K) (ss ++ [r], keys ++ [keyB ml]) gs := ⟨hb9, World.ownsMap.kept HOM8.out hg9 (OM.ne_own HOM8.out HS8.out), HKM7.out, hbmge, by rw [List.length_append, List.length_append, HKL.out]; rfl, ho9, Kd.R_over HGO8.out HS8.out (by decide) hg9⟩
        have hRW9 : kI.R 3 ws w3.heap.size tru (.slice (some ⟨rb, 0, none⟩) K K) ((row ++ [-1]) ++ List.replicate (K - (y + 1)) 0) := Kd.R_over HRW8.out HS8.out (by decide) hg9
        have hMR9 := HMR8.out.over HS8.out (by decide) (by decide) hg9
        obtain ⟨A8, c8, rfl, -, -⟩ := Kd.zbe ho9; obtain ⟨mb9, hmb9⟩ := Kd.R_typed hRW9 rb rfl; obtain ⟨q1, q1f⟩ := Kd.R_celln 0 hRW9 (y : Int) (Int.natCast_nonneg _) hy1; rw [Int.toNat_natCast] at q1 q1f; have HSXA := Lib.hid (hS9.rowSet rfl hRW9 y (.int .i64 (ss.length : Int))); have HMRA := Lib.hid (hMR9.set hmb9 (by decide) (by decide) y (.int .i64 (ss.length : Int)))
        have hrwA := Kd.R_putn hRW9 (y : Int) (ss.length : Int); rw [Int.toNat_natCast, set_row2 HRL.out] at hrwA; have HRWA := Lib.hid hrwA; have HRLA : Hid ((row ++ [(ss.length : Int)]).length = y + 1) := Lib.hid (by rw [List.length_append, HRL.out]; rfl)
        have HLA : Hid (∀ q ∈ ss ++ [r], q.length = sp.length ∧ ∀ y ∈ q, y < two64) := Lib.hid (fun q hq => by
         rcases List.mem_append.1 hq with hq | hq
         ·exact HL.out q hq
         ·rw [List.mem_singleton.1 hq]; exact HFR.out)
        have hstA : (ss ++ [r]).length ≤ 2048 := by rw [List.length_append]; exact hst2
        have HST2 := Lib.hid hstA; clear ho9 hb9 hg9 hat9 hS9 hRW9 hMR9 hmb9 hrwA HS8 HGO8 HRW8 HMR8 HOM8 HB8 HMV hstA; have hln2 : (ss ++ [r]).length = ss.length + 1 := by rw [List.length_append]; rfl
        have HSXB : Hid (Sx w3 (ws.setCell ⟨rb, y, none⟩ (.int .i64 (ss.length : Int))) bm (keys ++ [keyB ml]).length (D.put (kl (keyB ml)) (.lit (.int .i64 (ss.length : Int)))) (.slice A8 (ss ++ [r]).length c8) (.slice A9 n9 c9) (.slice (some ⟨rb, 0, none⟩) K K) (ss ++ [r], keys ++ [keyB ml]) gs) := by
         have hkl2 : (keys ++ [keyB ml]).length = keys.length + 1 := by rw [List.length_append]; rfl
         rw [hkl2]; exact HSXA
        clear HSXA
        go_wp2_with fail
        go_roundw
        case rel => exact ⟨y + 1, D.put (kl (keyB ml)) (.lit (.int .i64 (ss.length : Int))), (ss ++ [r], keys ++ [keyB ml]), row ++ [(ss.length : Int)], A8, c8, by rw [Int.natCast_add]; rfl, by rw [hln2], hy2, HST2.out, HRLA, HGY2, HLA, HSXB, HRWA, HMRA⟩
        case measure => exact hme
    ·have hyK : y = K := by omega
     have hgy := HGY.out; rw [List.drop_eq_nil_of_le (by rw [movedN_len, hyK]; exact Nat.le_refl _)] at hgy
     have HGE : Hid (goY l.length sp of_ kf (movedN K sp si si.length) [] st0 = some (some (row, (ss, keys)))) := Lib.hid hgy.symm; have hrw := HRW.out; rw [show K - y = 0 by omega, List.replicate_zero, List.append_nil] at hrw
     have HRW1 := Lib.hid hrw; have HRLK : Hid (row.length = K) := Lib.hid (HRL.out.trans hyK); have hib2 : decide ((y : Int) < (K : Int)) = false := decide_eq_false (by omega)
     have hMg : kGo.M wr w3.heap.size (fun q => some q ≠ (Value.slice A9 n9 c9).ownBlock) row [.slice (some ⟨rb, 0, none⟩) K K] := ⟨_, rfl, Kd.zbg (Kd.R_apart' HRW1.out (v := .slice A9 n9 c9) (e' := 95) (fun q hq => Kd.R_typed HSX.out.gos q hq) (by decide)) (fun q hq => hq.2)⟩
     have HMG := Lib.hid hMg; have hbo : (gs.length + 1) * 24 ≤ 140737488355328 := by have := HGL.out; omega
     have HGO1 : Hid (kGo.R 95 wr w3.heap.size tru (.slice A9 n9 c9) gs) := Lib.hid (Kd.R_drop HSX.out.gos); clear hgy HGY hrw HRW HRL HMR hyK hMg
     go_wp2_with ((with_reducible refine zax (b := .append) (xs := #[.tmp 96, .tmp 98]) rfl ?_); refine Hid.out ?_)
     refine Lib.hid ?_
     at_builtin
     refine Kd.R_append kGo (w0 := w3) (W := wr) w3.heap.size rfl (.tmp 96) (.tmp 98) 23 95 (.slice none 0 0) 24 rfl Tryd.underlying23 info95 rfl (by decide) (by decide) (.slice A9 n9 c9) gs row [.slice (some ⟨rb, 0, none⟩) K K] tru (fun q => some q ≠ (Value.slice A9 n9 c9).ownBlock) rfl rfl HMG.out (fun _ hk => ⟨trivial, hk⟩) (fun _ _ => trivial) HGO1.out HSX.out.below HSX.out.below.size hbo ?_
     intro v9 ws ho9 hb9 hg9 hat9; have HSXG := Lib.hid (HSX.out.appG ho9 hg9 hb9); obtain ⟨A10, c10, rfl, -, -⟩ := Kd.zbe ho9; clear ho9 hb9 hg9 hat9 HMG HGO1 HSX; obtain ⟨g, hg, HGI2⟩ : ∃ g, g + 1 = gk ∧ Hid (goI l.length m.length sp of_ kf g (i + 1) (ss, keys) (gs ++ [row]) = some res) := by
      have h2 := HGI.out; rw [← HST0.out] at h2; cases gk with
      | zero => simp [goI] at h2
      | succ g =>
       refine ⟨g, rfl, Lib.hid ?_⟩; unfold goI at h2; have h3 : st0.1[i]? = some si := by rw [HST0.out]; exact HSI.out
       rw [h3] at h2; simp only at h2; rw [← HKE.out, HGE.out] at h2; exact h2
     have hi2 : i + 1 ≤ 2048 := by omega
     have hgq : g < gk := by omega
     have hgk2 : g ≤ kg := by omega
     have hln3 : (gs ++ [row]).length = gs.length + 1 := by rw [List.length_append]; rfl
     have HGL2 : Hid ((gs ++ [row]).length = i + 1) := Lib.hid (by rw [hln3, HGL.out])
     go_wp2_with fail
     go_roundg g
     case measure => exact hgq
     case rel => exact ⟨i + 1, D, A7, c7, A10, (gs ++ [row]).length, c10, (ss, keys), gs ++ [row], by rw [Int.natCast_add]; rfl, rfl, by rw [hln3], hgk2, hi2, hst, HGL2, HGI2, HL, HSXG⟩
  ·have hres : res = some (ss, gs) := by
    have h2 := HGI.out; cases gk with
    | zero => simp [goI] at h2
    | succ g =>
     unfold goI at h2; rw [List.getElem?_eq_none (by simpa using hil)] at h2
     simpa using h2.symm
   have HRES := Lib.hid hres; have hib : decide ((i : Int) < (ss.length : Int)) = false := decide_eq_false (by omega)
   clear hres HGI hst0
   go_wp2_with ((with_reducible refine gate_ (.makeSlice 116 (.tmp 101) (.tmp 101)) rfl ?_); refine Hid.out ?_)
   refine Lib.hid ?_; refine Kd.R_make kLs (w0 := w3) (W := wr) w3.heap.size 119 rfl rfl 116 (.tmp 101) (.tmp 101) rfl (ss.length : Int) rfl rfl Tryd.underlying116 (.slice none 0 0) 24 info119 rfl (by decide) (by decide) [] (ok := tru) (okp := fun _ => False) ⟨_, rfl, Kd.R_nil _ _ _ _ _⟩ (fun _ h => h.elim) trivial (Int.natCast_nonneg _) (by rw [Int.toNat_natCast]; omega) HSX.out.below HSX.out.below.size ?_
   intro v1 w9 ho9 hb9 hg9 hat9; rw [Int.toNat_natCast] at ho9; have HSX9 := Lib.hid (HSX.out.bel (pw_below_grown (Below.refl wr.heap.size wr) none (Nat.le_refl _) hg9 (fun k h => by cases h)))
   obtain ⟨og, hog, _⟩ := hat9; obtain ⟨oc, rfl⟩ := R_at ho9 hog; rw [List.length_replicate]; have HS0 := Lib.hid HSX9.out.sets; have HGO0 : Hid (kGo.R 95 w9 w3.heap.size tru (.slice A9 n9 c9) gs) := Lib.hid (Kd.R_drop HSX9.out.gos); have HBB0 := Lib.hid HSX9.out.below; have HO0 : Hid (kLs.R 119 w9 w3.heap.size tru (.slice (some ⟨og, 0, none⟩) ss.length oc) ((ss.take 0).map (fun s => listN sp s s.length) ++ List.replicate (ss.length - 0) [])) := Lib.hid (by
    have h := ho9; rw [List.length_replicate] at h; exact h)
   clear ho9 hb9 hg9 hog HSX HSX9
   go_wp2_with fail
   go_loopw [105] (fun v w' => ∃ (q : Nat), v = .int .i64 (q : Int) ∧ q ≤ ss.length ∧ Hid (Below w3.heap.size w3 w') ∧ Hid (kSets.R 169 w' w3.heap.size tru (.slice A7 ss.length c7) ss) ∧ Hid (kGo.R 95 w' w3.heap.size tru (.slice A9 n9 c9) gs) ∧ Hid (kLs.R 119 w' w3.heap.size tru (.slice (some ⟨og, 0, none⟩) ss.length oc) ((ss.take q).map (fun s => listN sp s s.length) ++ List.replicate (ss.length - q) []))) (fun v _ => ss.length - (intOf v).toNat)
   case atStart => exact ⟨0, rfl, Nat.zero_le _, HBB0, HS0, HGO0, HO0⟩
   case round =>
    clear HBB0 HS0 HGO0 HO0; obtain ⟨q, rfl, hq, HBB, HS, HGO, HO⟩ := hrel; by_cases hql : q < ss.length
    ·obtain ⟨sq, hsq⟩ : ∃ sq, ss[q]? = some sq := ⟨_, List.getElem?_eq_getElem hql⟩; obtain ⟨hsl0, hslt⟩ := HL.out sq (List.mem_of_getElem? hsq); obtain ⟨hn7, hc7, hC7⟩ := Kd.zbo HS.out; obtain ⟨ad7, A5, c5, rfl, s0, -, hC5⟩ := at_Sl (d := kU) (e := 128) hC7 (i := q) hsq; have HSQ := Lib.hid hsq; have hib3 : decide ((q : Int) < (ss.length : Int)) = true := decide_eq_true (by omega)
     have hq0 : (0 : Int) ≤ (q : Int) := Int.natCast_nonneg _; have hq1 : (q : Int) < (ss.length : Int) := by omega
     have hqw : IntKind.i64.wrap ((q : Int) + 1) = (q : Int) + 1 := IntWalk.i64_in _ (by omega)
     have hq2 : q + 1 ≤ ss.length := hql; have hme : ss.length - (q + 1) < ss.length - q := by omega
     have HLC := Lib.hid (list_any gb A l.length c B m.length d (.slice C ps.length e) vat As cs sp (some ⟨go, 0, none⟩) m.length of_ wr (HBR3.out.below HBB.out) hN (HTB3.out.below HBB.out) A5 c5 sq hC5 hsl0 hslt); clear hsq hn7 hc7 hC7 hC5 hsl0 hslt
     go_wp2_with (go_at_call 68; refine (HLC.out).mono ?_; rintro e8 w8 ⟨vr, rfl, hrv, hb8⟩; refine Hid.out ?_)
     refine Lib.hid ?_; obtain ⟨Av, cv, rfl, -, -⟩ := Kd.zbe hrv; have hbg : og < wr.heap.size := by
      obtain ⟨cells, hc⟩ := Kd.R_typed HO.out og rfl; exact (Array.getElem?_eq_some_iff.1 hc).1
     have hMo : kLs.M w8 w3.heap.size (fun k => k ≠ og) (listN sp sq sq.length) [.slice Av (listN sp sq sq.length).length cv] := ⟨_, rfl, Kd.R_lower (Kd.zbg (Kd.R_bound hrv) (fun k hk e => by
      have h2 := hk.2.1; omega)) HBB.out.size⟩
     have HMO := Lib.hid hMo; have HBB1 := Lib.hid (zam HBB.out hb8); have HS1 := Lib.hid (Kd.zbi HS.out hb8); have HGO1 := Lib.hid (Kd.zbi HGO.out hb8); have HO1 := Lib.hid (Kd.zbi HO.out hb8); clear HLC hrv hbg hMo hb8 HBB HS HGO HO s0
     go_wp2_with ((with_reducible refine gate_ (.store 119 (.tmp 115) (.tmp 114)) rfl ?_); refine Hid.out ?_)
     refine Lib.hid ?_; obtain ⟨hnO, -, hCO⟩ := Kd.zbo HO1.out; obtain ⟨ado, co, eo, hco, hKo, hcc⟩ := Kd.C_get hCO [] (q : Int) hq0 (by first | (rw [← hnO]; exact hq1) | omega)
     cases eo; have hset : ((ss.take q).map (fun s => listN sp s s.length) ++ List.replicate (ss.length - q) []).set q (listN sp sq sq.length) = (ss.take (q + 1)).map (fun s => listN sp s s.length) ++ List.replicate (ss.length - (q + 1)) [] := by
      have hlt : ((ss.take q).map (fun s => listN sp s s.length)).length = q := by rw [List.length_map, List.length_take]; omega
      obtain ⟨hq', hsq'⟩ := List.getElem?_eq_some_iff.1 HSQ.out; rw [List.set_append_right _ _ (by rw [hlt]; exact Nat.le_refl _), hlt, Nat.sub_self, List.take_succ_eq_append_getElem hq', List.map_append, List.append_assoc, hsq']
      congr 1
      rw [show ss.length - q = (ss.length - (q + 1)) + 1 by omega, List.replicate_succ, List.set_cons_zero]
      rfl
     have HSET := Lib.hid hset; refine Kd.R_store kLs (w0 := w3) (W := w8) w3.heap.size rfl rfl 119 (.tmp 115) (.tmp 114) rfl 119 (q : Int) 0 _ (listN sp sq sq.length) (.slice Av (listN sp sq sq.length).length cv) [.slice Av (listN sp sq sq.length).length cv] co tru (fun k => k ≠ og) rfl (by show _ = (q : Int).toNat * 1 + 0; simp) rfl rfl (by kernel_rfl) (fun u hu => by rw [List.mem_singleton.1 hu]; rfl) HO1.out hq0 hq1 (by first | exact hco | exact Kd.K_len hKo | (have hh : co.length = 1 := by (obtain ⟨_, _, rfl, _⟩ := hKo; rfl); exact hh)) (by first | exact hcc | (intro j u hj; have h := hcc j u hj; rw [add_og] at h; exact h)) (by show 0 + 1 ≤ 1; exact Nat.le_refl _) (by
      have hh : co.length = 1 := by first | exact hco | (obtain ⟨_, _, rfl, _⟩ := hKo; rfl)
      have : (co.take 0 ++ [Value.slice Av (listN sp sq sq.length).length cv] ++ co.drop 1) = [Value.slice Av (listN sp sq sq.length).length cv] := by
       rw [List.drop_eq_nil_of_le (by omega)]; rfl
      show kLs.M _ _ _ _ (co.take 0 ++ [Value.slice Av (listN sp sq sq.length).length cv] ++ co.drop 1); rw [this]; exact HMO.out) (fun k hk => ⟨trivial, hk⟩) HBB1.out ?_
     intro ws ho hb hg; rw [Int.toNat_natCast, HSET.out] at ho; have HO2 := Lib.hid ho; have HBB2 := Lib.hid hb; have HS2 : Hid (kSets.R 169 ws w3.heap.size tru (.slice (some ad7) ss.length c7) ss) := Lib.hid (Kd.R_over HS1.out HO1.out (by decide) hg)
     have HGO2 : Hid (kGo.R 95 ws w3.heap.size tru (.slice A9 n9 c9) gs) := Lib.hid (Kd.R_over HGO1.out HO1.out (by decide) hg)
     clear ho hb hg HO1 HBB1 HS1 HGO1 HMO hCO hKo hcc hset hnO hco
     go_wp2_with fail
     go_roundw
     case rel => exact ⟨q + 1, by rw [Int.natCast_add]; rfl, hq2, HBB2, HS2, HGO2, HO2⟩
     case measure => exact hme
    ·have hib3 : decide ((q : Int) < (ss.length : Int)) = false := decide_eq_false (by omega)
     have ho := HO.out; rw [List.take_of_length_le (by omega), show ss.length - q = 0 by omega, List.replicate_zero, List.append_nil] at ho
     obtain ⟨hn1, -, hC1⟩ := Kd.zbo ho; rw [List.length_map] at hC1; obtain ⟨hn2, -, hC2⟩ := Kd.zbo HGO.out; subst hn2; have HC1 := Lib.hid hC1; have HC2 := Lib.hid hC2; have HBE := Lib.hid (below_step' HB3.out HBB.out); clear ho hn1 hC1 hC2 HO HGO HS
     go_wp2_with fail
     go_ret3; have hr := HRES.out; subst hr; exact ⟨HBE.out, _, _, _, _, rfl, HC1.out, HC2.out⟩
abbrev TRows := List (List S93) × List (List Int)
abbrev BR := Sum TRows (Int × Int × Int)
def goB (T : Nat) (ps : List S77) : List (List S178) → List (List Int) → Nat → TRows → BR
 | [], _, _, acc => .inl acc
 | s :: ss, gs, i, acc => match (rowS T ps s (gs.getD i [])).2 with
  | some c => .inr (130, (i : Int), (c : Int))
  | none => goB T ps ss gs (i + 1) (acc.1 ++ [(rowS T ps s (gs.getD i [])).1], acc.2 ++ [(gs.getD i []).drop T])
def buildS (T : Nat) (ps : List S77) (sp : List S230) : Option (List (List Nat) × List (List Int)) → BR
 | none => .inr (120, -1, -1)
 | some (ss, gs) => goB T ps (ss.map fun s => listN sp s s.length) gs 0 ([], [])
structure SetsOk (T M : Nat) (ps : List S77) (sp : List S230) (ss : List (List Nat)) (gs : List (List Int)) : Prop where
 len : gs.length = ss.length
 most : ss.length ≤ 2048
 fit : ∀ s ∈ ss, FitI T ps (listN sp s s.length) ∧ (listN sp s s.length).length ≤ 1099511627776
 row : ∀ g ∈ gs, g.length = T + M
abbrev HD := Option Addr × Nat × Nat
def kH : Kd HD := Kd.scalar (fun h : HD => .slice h.1 h.2.1 h.2.2) (fun _ => rfl)
def hdr (h : HD) : Value := .slice h.1 h.2.1 h.2.2
section
variable {α : Type} {k : Kd α} {t : Nat} {w w1 : World} {base : Nat} {vs : List Value} {xs : List (List α)}
theorem Rows.snoc (hE : k.E = []) (h : Rows k t w base vs xs) {v : Value} {x : List α} {ok : Nat → Prop} (hR : k.R t w base ok v x) (hn : ∀ (j : Nat) (u : Value) (q : Nat), vs[j]? = some u → u.ownBlock = some q → v.ownBlock ≠ some q) : Rows k t w base (vs ++ [v]) (xs ++ [x]) := by
 have hl := h.len; refine ⟨by simp [hl], fun j u y hu hy => ?_, fun i j u u' hij hu hu' q hq => ?_⟩
 ·rcases Nat.lt_trichotomy j vs.length with hj | hj | hj
  ·rw [List.getElem?_append_left hj] at hu; rw [List.getElem?_append_left (by omega)] at hy
   exact h.row j u y hu hy
  ·rw [List.getElem?_append_right (by omega), show j - vs.length = 0 by omega] at hu
   rw [List.getElem?_append_right (by omega), show j - xs.length = 0 by omega] at hy
   cases hu; cases hy; exact Kd.R_tight hE hR
  ·rw [List.getElem?_eq_none (by simp; omega)] at hu
   cases hu
 ·have key : ∀ (a : Nat) (z : Value), (vs ++ [v])[a]? = some z → (a < vs.length ∧ vs[a]? = some z) ∨ (a = vs.length ∧ z = v) := fun a z hz => by
   rcases Nat.lt_trichotomy a vs.length with ha | ha | ha
   ·rw [List.getElem?_append_left ha] at hz; exact .inl ⟨ha, hz⟩
   ·rw [List.getElem?_append_right (by omega), show a - vs.length = 0 by omega] at hz
    cases hz; exact .inr ⟨ha, rfl⟩
   ·rw [List.getElem?_eq_none (by simp; omega)] at hz
    cases hz
  rcases key i u hu with ⟨hi, hu2⟩ | ⟨hi, hu2⟩
  ·rcases key j u' hu' with ⟨hj, hu3⟩ | ⟨hj, hu3⟩
   ·exact h.apart i j u u' hij hu2 hu3 q hq
   ·rw [hu3]; exact hn i u q hu2 hq
  ·rcases key j u' hu' with ⟨hj, hu3⟩ | ⟨hj, hu3⟩
   ·intro he; rw [hu2] at hq; exact hn j u' q hu3 he hq
   ·omega
theorem Rows.lower {base' : Nat} (h : Rows k t w base vs xs) (hb : base' ≤ base) : Rows k t w base' vs xs := ⟨h.len, fun j v x hv hx => Kd.R_lower (h.row j v x hv hx) hb, h.apart⟩
theorem Rows.empty : Rows k t w base [] [] := ⟨rfl, fun j v x hv => by simp at hv, fun i j u v _ hu => by simp at hu⟩
theorem Rows.readsH {A : Option Addr} {n : Nat} {hs : List HD} (h : Rows k t w base (hs.map hdr) xs) (hA : kH.C w A n hs) : (Kd.slice t k).C w A n xs := by
 obtain ⟨h1, h2, h3⟩ := hA; have hl := h.len; rw [List.length_map] at hl; refine ⟨by omega, h2, fun hp => ?_⟩
 obtain ⟨ad, e, hh⟩ := h3 hp; refine ⟨ad, e, fun j p hj => ?_⟩
 obtain ⟨hjl, _⟩ := List.getElem?_eq_some_iff.1 hj; obtain ⟨x, hx⟩ : ∃ x, hs[j]? = some x := ⟨_, List.getElem?_eq_getElem (by omega)⟩
 obtain ⟨cs, hcl, hcs, hcc⟩ := hh j x hx; have hv : (hs.map hdr)[j]? = some (hdr x) := by rw [List.getElem?_map, hx]; rfl
 obtain ⟨A2, c2, e2, hc2, hC2⟩ := Kd.zbe (h.row j _ p hv hj); have e3 : cs = [hdr x] := hcs; refine ⟨cs, by rw [e3]; rfl, ?_, hcc⟩
 rw [e3, e2]; exact ⟨A2, c2, rfl, hc2, hC2⟩
end
structure Tx (w3 W : World) (tb : Nat) (vA vG : Value) (hA hG : List HD) (uA uG : List Value) (rows : List (List S93)) (gos : List (List Int)) : Prop where
 below : Below w3.heap.size w3 W
 tbk : W.heap[tb]? = some (.cells #[vA, vG] 25 (0, 0))
 ge : w3.heap.size ≤ tb
 A : kH.R 90 W w3.heap.size tru vA hA
 ra : Rows k93 93 W w3.heap.size uA rows
 G : kH.R 95 W w3.heap.size tru vG hG
 rg : Rows kInt 3 W w3.heap.size uG gos
theorem EH : kH.E = [] := rfl
theorem E93 : k93.E = [] := rfl
theorem EInt : kInt.E = [] := rfl
section
variable {w3 W W1 : World} {tb : Nat} {vA vG : Value} {hA hG : List HD} {uA uG : List Value} {rows : List (List S93)} {gos : List (List Int)}
theorem Tx.bel (h : Tx w3 W tb vA vG hA hG uA uG rows gos) (hb : Below W.heap.size W W1) : Tx w3 W1 tb vA vG hA hG uA uG rows gos :=
 ⟨zam h.below hb, zal h.tbk hb, h.ge, Kd.zbi h.A hb, h.ra.below hb, Kd.zbi h.G hb, h.rg.below hb⟩
theorem Tx.alloc (h : Tx w3 W tb vA vG hA hG uA uG rows gos) (o : Obj) : Tx w3 (W.alloc o) tb vA vG hA hG uA uG rows gos := h.bel (zab (Below.refl _ _) o)
theorem Tx.drewN (h : Tx w3 W tb vA vG hA hG uA uG rows gos) (n : Nat) : Tx w3 (W.drewN n) tb vA vG hA hG uA uG rows gos := h.bel (zaa (Below.refl _ _) n)
theorem Tx.drew (h : Tx w3 W tb vA vG hA hG uA uG rows gos) : Tx w3 W.drew tb vA vG hA hG uA uG rows gos := h.bel (zbl (Below.refl _ _))
theorem Tx.newA (h : Tx w3 W tb vA vG hA hG uA uG rows gos) {v : Value} {row : List S93} {b : Nat} (hR : k93.R 93 W b tru v row) (hb : w3.heap.size ≤ b) (hn : ∀ (j : Nat) (u : Value) (q : Nat), uA[j]? = some u → u.ownBlock = some q → v.ownBlock ≠ some q) : Tx w3 W tb vA vG hA hG (uA ++ [v]) uG (rows ++ [row]) gos :=
 ⟨h.below, h.tbk, h.ge, h.A, h.ra.snoc E93 (Kd.R_lower hR hb) hn, h.G, h.rg⟩
theorem Tx.newG (h : Tx w3 W tb vA vG hA hG uA uG rows gos) {v : Value} {row : List Int} {b : Nat} (hR : kInt.R 3 W b tru v row) (hb : w3.heap.size ≤ b) (hn : ∀ (j : Nat) (u : Value) (q : Nat), uG[j]? = some u → u.ownBlock = some q → v.ownBlock ≠ some q) : Tx w3 W tb vA vG hA hG uA (uG ++ [v]) rows (gos ++ [row]) :=
 ⟨h.below, h.tbk, h.ge, h.A, h.ra, h.G, h.rg.snoc EInt (Kd.R_lower hR hb) hn⟩
theorem Tx.appA (h : Tx w3 W tb vA vG hA hG uA uG rows gos) {v1 : Value} {hA1 : List HD} (hR : kH.R 90 W1 w3.heap.size tru v1 hA1) (hg : W.grownBy W1 vA.ownBlock) (hb : Below w3.heap.size w3 W1) : W1.heap[tb]? = some (.cells #[vA, vG] 25 (0, 0)) ∧ Tx w3 (W1.setCell ⟨tb, 0, none⟩ v1) tb v1 vG hA1 hG uA uG rows gos := by
 have h1 := zas h.tbk hg (Kd.R_ne h.A h.tbk (by decide))
 have h2 := h.ra.over h.A (by decide) hg
 have h3 := Kd.R_over h.G h.A (by decide) hg
 have h4 := h.rg.over h.A (by decide) hg
 exact ⟨h1, zae hb h.ge, zar h1 0 v1 rfl, h.ge, Kd.R_set hR h1 (by decide) 0 v1, h2.set h1 (by decide) 0 v1, Kd.R_set h3 h1 (by decide) 0 v1, h4.set h1 (by decide) 0 v1⟩
theorem Tx.appG (h : Tx w3 W tb vA vG hA hG uA uG rows gos) {v1 : Value} {hG1 : List HD} (hR : kH.R 95 W1 w3.heap.size tru v1 hG1) (hg : W.grownBy W1 vG.ownBlock) (hb : Below w3.heap.size w3 W1) : W1.heap[tb]? = some (.cells #[vA, vG] 25 (0, 0)) ∧ Tx w3 (W1.setCell ⟨tb, 1, none⟩ v1) tb vA v1 hA hG1 uA uG rows gos := by
 have h1 := zas h.tbk hg (Kd.R_ne h.G h.tbk (by decide))
 have h2 := h.ra.over h.G (by decide) hg
 have h3 := Kd.R_over h.A h.G (by decide) hg
 have h4 := h.rg.over h.G (by decide) hg
 exact ⟨h1, zae hb h.ge, zar h1 1 v1 rfl, h.ge, Kd.R_set h3 h1 (by decide) 1 v1, h2.set h1 (by decide) 1 v1, Kd.R_set hR h1 (by decide) 1 v1, h4.set h1 (by decide) 1 v1⟩
end
structure TbOwn (W : World) (base : Nat) (vA vG : Value) (rows : List (List S93)) (gos : List (List Int)) : Prop where
 own : ∃ hA hG, kH.R 90 W base tru vA hA ∧ Rows k93 93 W base (hA.map hdr) rows ∧ kH.R 95 W base tru vG hG ∧ Rows kInt 3 W base (hG.map hdr) gos
def RetBuild (w : World) (res : BR) (e : Ending) (w' : World) : Prop := Below w.heap.size w w' ∧ match res with
 | .inl (rows, gos) => ∃ A c B d, e = .returned (.tuple #[.agg #[.slice A rows.length c, .slice B gos.length d], .int .i64 0, .int .i64 0, .int .i64 0]) ∧ TbOwn w' w.heap.size (.slice A rows.length c) (.slice B gos.length d) rows gos
 | .inr (code, s, t) => e = .returned (.tuple #[.agg #[.slice none 0 0, .slice none 0 0], .int .i64 code, .int .i64 s, .int .i64 t])
theorem results_cttt {P : Program} {fn : Func} {p u v x : Tmp} {ty : TypeId} (h : fn.results = #[.cell p ty, .tmp u, .tmp v, .tmp x]) (tmps : Array Value) (w : World) (g : Nat) (t : TypeId) (cs : Array Value) (fr : Nat × Nat) (d : TypeDesc)
  (hp : tmps.getD p undef = .pointer (some ⟨g, 0, none⟩)) (hg : w.heap[g]? = some (.cells cs t fr))
  (hu : P.underlying ty = some d) (hd : (match d with | .struct _ | .array _ _ => true | _ => false) = true) (hi : (P.info? ty).map (·.size) = some cs.size) :
  (results fn tmps).run P w = .ok (.tuple #[.agg cs, tmps.getD u undef, tmps.getD v undef, tmps.getD x undef]) w := by
 have hp' : tmps[p]?.getD undef = .pointer (some ⟨g, 0, none⟩) := by simpa using hp
 simp [results, h, hp', asAddr, run_loadVar_row w g t ty cs fr d hg hu hd hi]
end Bld
end Go.Proofs.YtcijanmckhlpiaaDoor
namespace Go.Proofs.YtcijanmckhlpiaaDoor
open Go.RowKit Go.Proofs.YtcijanmckhlpiaaDoorW.PrintWords Go.Proofs.YtcijanmckhlpiaaDoorW.PrintLast Go.Proofs.YtcijanmckhlpiaaDoorW.PrintMore
namespace Apt
open Bld (HD hdr kH kInt)
abbrev tru : Nat → Prop := fun _ => True
structure Rws (e sz base : Nat) (W : World) (hs : List HD) (xss : List (List Value)) : Prop where
 len : xss.length = hs.length
 row : ∀ (j : Nat) (h : HD) (xs : List Value), hs[j]? = some h → xss[j]? = some xs → W.ownsRow base e sz (hdr h) h.2.1 xs
def Ap (v u : Value) : Prop := ∀ k, v.ownBlock = some k → u.ownBlock ≠ some k
def Aparts (hs : List HD) : Prop := ∀ (i j : Nat) (h h' : HD), i ≠ j → hs[i]? = some h → hs[j]? = some h' → Ap (hdr h) (hdr h')
section
variable {e sz base : Nat} {W W' : World} {hs : List HD} {xss : List (List Value)}
theorem own_setCell {size n : Nat} {t : TypeId} {v : Value} {xs : List Value} (h : W.ownsRow base t size v n xs) {p : Addr} (hp : v.ownBlock ≠ some p.block) (u : Value) : (W.setCell p u).ownsRow base t size v n xs := by
 rcases h.2 with ⟨e1, e2⟩ | ⟨g, cap, cur, hv, hb, hk, r⟩
 ·exact ⟨h.1, .inl ⟨e1, e2⟩⟩
 ·exact ⟨h.1, .inr ⟨g, cap, cur, hv, hb, (Below.heap_setCell W p u g (fun e => hp (by rw [hv]; show some g = _; rw [e]))).trans hk, r⟩⟩
theorem Rws.get (H : Rws e sz base W hs xss) {j : Nat} {h : HD} (hj : hs[j]? = some h) : ∃ xs, xss[j]? = some xs ∧ W.ownsRow base e sz (hdr h) h.2.1 xs := by
 have h1 := (List.getElem?_eq_some_iff.1 hj).1; have h2 : j < xss.length := by rw [H.len]; exact h1
 exact ⟨xss[j], List.getElem?_eq_getElem h2, H.row j h _ hj (List.getElem?_eq_getElem h2)⟩
theorem Rws.set {g n cap i p : Nat} {xs : List Value} (H : Rws e sz base W hs xss) (ha : Aparts hs) (hi : hs[i]? = some (some ⟨g, 0, none⟩, n, cap)) (hx : xss[i]? = some xs) (u : Value) :
  Rws e sz base (W.setCell ⟨g, p, none⟩ u) hs (xss.set i (xs.set p u)) := by
 refine ⟨by rw [List.length_set]; exact H.len, fun j h ys hj hy => ?_⟩
 by_cases hij : i = j
 ·subst hij; rw [hi] at hj; cases hj; rw [List.getElem?_set_self (List.getElem?_eq_some_iff.1 hx).1] at hy; cases hy; exact own_cset (H.row i _ xs hi hx) p u
 ·rw [List.getElem?_set_ne hij] at hy; exact own_setCell (H.row j h ys hj hy) (fun e => ha i j _ h hij hi hj g rfl e) u
theorem own_same {size n : Nat} {t : TypeId} {v : Value} {xs : List Value} (h : W.ownsRow base t size v n xs) (hs : ∀ k, v.ownBlock = some k → W'.heap[k]? = W.heap[k]?) : W'.ownsRow base t size v n xs := by
 rcases h.2 with ⟨e1, e2⟩ | ⟨g, cap, cur, hv, hb, hk, r⟩
 ·exact ⟨h.1, .inl ⟨e1, e2⟩⟩
 ·exact ⟨h.1, .inr ⟨g, cap, cur, hv, hb, (hs g (by rw [hv]; rfl)).trans hk, r⟩⟩
theorem Rws.same (H : Rws e sz base W hs xss) (hk : ∀ (j : Nat) (h : HD) (k : Nat), hs[j]? = some h → (hdr h).ownBlock = some k → W'.heap[k]? = W.heap[k]?) : Rws e sz base W' hs xss :=
 ⟨H.len, fun j h xs hj hx => own_same (H.row j h xs hj hx) (fun k hkk => hk j h k hj hkk)⟩
theorem own_form {n : Nat} {h : HD} {xs : List Value} (H : W.ownsRow base e sz (hdr h) n xs) (hn : 0 < n) : ∃ g, h.1 = some ⟨g, 0, none⟩ ∧ base ≤ g ∧ ∃ cur, W.heap[g]? = some (.cells cur e (0, 0)) := by
 rcases H.2 with ⟨_, h0⟩ | ⟨g, cap, cur, hvv, hb, hk, _⟩
 ·omega
 ·unfold hdr at hvv; injection hvv with e1 e2 e3; exact ⟨g, e1, hb, cur, hk⟩
theorem zbp {n : Nat} {v : Value} {xs : List Value} (h : W.ownsRow base e sz v n xs) : ∀ k, v.ownBlock = some k → base ≤ k ∧ k < W.heap.size ∧ ∃ cur, W.heap[k]? = some (.cells cur e (0, 0)) := by
 intro k hk; rcases h.2 with ⟨e1, _⟩ | ⟨g, cap, cur, hv, hb, hg, _⟩
 ·rw [e1] at hk; cases hk
 ·rw [hv] at hk; have q1 : g = k := by injection hk
  subst q1; exact ⟨hb, (Array.getElem?_eq_some_iff.1 hg).1, cur, hg⟩
theorem rws_of {α : Type} {k : Kd α} {rows : List (List α)} (h : Bld.Rows k e W base (hs.map hdr) rows) : ∃ xss, Rws e k.sz base W hs xss ∧ Aparts hs := by
 have hl := h.len; rw [List.length_map] at hl; have key : ∀ j, j < hs.length → ∃ xs, ∀ h', hs[j]? = some h' → W.ownsRow base e k.sz (hdr h') h'.2.1 xs := fun j hj => by
  obtain ⟨h', hh⟩ : ∃ x, hs[j]? = some x := ⟨_, List.getElem?_eq_getElem hj⟩; obtain ⟨r, hr⟩ : ∃ x, rows[j]? = some x := ⟨_, List.getElem?_eq_getElem (by omega)⟩
  have hR := h.row j (hdr h') r (by rw [List.getElem?_map, hh]; rfl) hr
  obtain ⟨_, inner, ho, _⟩ := hR; obtain ⟨A, c, e1, _, _⟩ := Kd.zbe (h.row j (hdr h') r (by rw [List.getElem?_map, hh]; rfl) hr)
  have e2 : h'.2.1 = r.length := by unfold hdr at e1; injection e1
  refine ⟨inner, fun h2 hh2 => ?_⟩
  rw [hh] at hh2; cases hh2; rw [e2]; exact ho
 classical
 refine ⟨(List.range hs.length).map fun j => if hj : j < hs.length then (key j hj).choose else [], ⟨by simp, fun j h' xs hj hx => ?_⟩, fun i j h1 h2 hij hi hj k hk => ?_⟩
 ·have hjl := (List.getElem?_eq_some_iff.1 hj).1; rw [List.getElem?_map, List.getElem?_range hjl] at hx; simp only [Option.map_some, Option.some.injEq] at hx; rw [dif_pos hjl] at hx; subst hx; exact (key j hjl).choose_spec h' hj
 ·exact h.apart i j (hdr h1) (hdr h2) hij (by rw [List.getElem?_map, hi]; rfl) (by rw [List.getElem?_map, hj]; rfl) k hk
end
def mkA1 (j q : Nat) : Value := if q % 2 = 0 then .int .i64 9 else .int .i64 (j : Int)
def mkA2 (j q : Nat) : Value := if q % 2 = 0 then .int .i64 8 else .int .i64 (j : Int)
def mkG1 (j q : Nat) : Value := .int .i64 (100000 + (j : Int))
def mkG2 (j q : Nat) : Value := .int .i64 (-9 - (j : Int))
theorem marksA_step {n k i : Nat} {xs : List Value} (hl : xs.length = n * 2) (hk : k < n) (h : ∀ q u, q < k * 2 → xs[q]? = some u → u = mkA1 i q) :
  ∀ q u, q < (k + 1) * 2 → ((xs.set (k * 2) (.int .i64 9)).set (k * 2 + 1) (.int .i64 (i : Int)))[q]? = some u → u = mkA1 i q := by
 intro q u hq hu; rcases Nat.lt_or_ge q (k * 2) with c | c
 ·rw [List.getElem?_set_ne (by omega), List.getElem?_set_ne (by omega)] at hu
  exact h q u c hu
 ·have : q = k * 2 ∨ q = k * 2 + 1 := by omega
  rcases this with rfl | rfl
  ·rw [List.getElem?_set_ne (by omega), List.getElem?_set_self (by omega)] at hu
   cases hu; unfold mkA1; rw [if_pos (by omega)]
  ·rw [List.getElem?_set_self (by rw [List.length_set]; omega)] at hu
   cases hu; unfold mkA1; rw [if_neg (by omega)]
theorem marksG_step {n k i : Nat} {xs : List Value} (hl : xs.length = n * 1) (hk : k < n) (h : ∀ q u, q < k * 1 → xs[q]? = some u → u = mkG1 i q) :
  ∀ q u, q < (k + 1) * 1 → (xs.set (k * 1) (.int .i64 (100000 + (i : Int))))[q]? = some u → u = mkG1 i q := by
 intro q u hq hu; rcases Nat.lt_or_ge q (k * 1) with c | c
 ·rw [List.getElem?_set_ne (by omega)] at hu
  exact h q u c hu
 ·have : q = k * 1 := by omega
  subst this; rw [List.getElem?_set_self (by omega)] at hu
  cases hu; rfl
structure ApS (base : Nat) (W0 W : World) (hA hG : List HD) (vA vG : Value) (xA xG : List (List Value)) : Prop where
 rA : Rws 93 2 base W hA xA
 rG : Rws 3 1 base W hG xG
 aA : kH.R 90 W W0.heap.size tru vA hA
 aG : kH.R 95 W W0.heap.size tru vG hG
 os : W.os = W0.os
 tape : W.tape = W0.tape
 output : W.output = W0.output
 size : W0.heap.size ≤ W.heap.size
 rest : ∀ k, k < W0.heap.size → (∀ (j : Nat) (h : HD), hA[j]? = some h → (hdr h).ownBlock ≠ some k) → (∀ (j : Nat) (h : HD), hG[j]? = some h → (hdr h).ownBlock ≠ some k) → W.heap[k]? = W0.heap[k]?
section
variable {base : Nat} {W0 W W' : World} {hA hG : List HD} {vA vG : Value} {xA xG : List (List Value)}
theorem ApS.setA (H : ApS base W0 W hA hG vA vG xA xG) (ha : Aparts hA) {g n cap i p : Nat} {xs : List Value} (hi : hA[i]? = some (some ⟨g, 0, none⟩, n, cap)) (hn : 0 < n) (hx : xA[i]? = some xs) (u : Value) :
  ApS base W0 (W.setCell ⟨g, p, none⟩ u) hA hG vA vG (xA.set i (xs.set p u)) xG := by
 obtain ⟨g', e, _, cur, hk⟩ := own_form (H.rA.row i _ xs hi hx) hn; have e : g = g' := by simpa using e
 subst e; refine ⟨H.rA.set ha hi hx u, H.rG.same (fun j h k hj hkk => Below.heap_setCell W ⟨g, p, none⟩ u k (fun e3 => ?_)), Kd.R_set H.aA hk (by decide) p u, Kd.R_set H.aG hk (by decide) p u, H.os, H.tape, H.output, by rw [show (W.setCell ⟨g, p, none⟩ u).heap.size = W.heap.size by simp [World.setCell]]; exact H.size, fun k hk0 hno hno2 => ?_⟩
 ·obtain ⟨xs', hx', ho⟩ := H.rG.get hj; obtain ⟨_, _, cur', hc⟩ := zbp ho k hkk; have e4 : k = g := e3; rw [e4, hk] at hc; injection hc with hc; injection hc with _ hc; cases hc
 ·rw [Below.heap_setCell W ⟨g, p, none⟩ u k (fun e3 => hno i _ hi (by rw [show k = g from e3]; rfl))]
  exact H.rest k hk0 hno hno2
theorem ApS.setG (H : ApS base W0 W hA hG vA vG xA xG) (ha : Aparts hG) {g n cap i p : Nat} {xs : List Value} (hi : hG[i]? = some (some ⟨g, 0, none⟩, n, cap)) (hn : 0 < n) (hx : xG[i]? = some xs) (u : Value) :
  ApS base W0 (W.setCell ⟨g, p, none⟩ u) hA hG vA vG xA (xG.set i (xs.set p u)) := by
 obtain ⟨g', e, _, cur, hk⟩ := own_form (H.rG.row i _ xs hi hx) hn; have e : g = g' := by simpa using e
 subst e; refine ⟨H.rA.same (fun j h k hj hkk => Below.heap_setCell W ⟨g, p, none⟩ u k (fun e3 => ?_)), H.rG.set ha hi hx u, Kd.R_set H.aA hk (by decide) p u, Kd.R_set H.aG hk (by decide) p u, H.os, H.tape, H.output, by rw [show (W.setCell ⟨g, p, none⟩ u).heap.size = W.heap.size by simp [World.setCell]]; exact H.size, fun k hk0 hno hno2 => ?_⟩
 ·obtain ⟨xs', hx', ho⟩ := H.rA.get hj; obtain ⟨_, _, cur', hc⟩ := zbp ho k hkk; have e4 : k = g := e3; rw [e4, hk] at hc; injection hc with hc; injection hc with _ hc; cases hc
 ·rw [Below.heap_setCell W ⟨g, p, none⟩ u k (fun e3 => hno2 i _ hi (by rw [show k = g from e3]; rfl))]
  exact H.rest k hk0 hno hno2
theorem ApS.bel (H : ApS base W0 W hA hG vA vG xA xG) (hb : Below W.heap.size W W') : ApS base W0 W' hA hG vA vG xA xG :=
 ⟨H.rA.same (fun j h k hj hkk => by obtain ⟨xs, hx, ho⟩ := H.rA.get hj; exact hb.block k (zbp ho k hkk).2.1), H.rG.same (fun j h k hj hkk => by obtain ⟨xs, hx, ho⟩ := H.rG.get hj; exact hb.block k (zbp ho k hkk).2.1),
  Kd.zbi H.aA hb, Kd.zbi H.aG hb, hb.os.trans H.os, hb.tape.trans H.tape, hb.output.trans H.output, Nat.le_trans H.size hb.size, fun k h1 h2 h3 => (hb.block k (Nat.lt_of_lt_of_le h1 H.size)).trans (H.rest k h1 h2 h3)⟩
theorem ApS.drewN (H : ApS base W0 W hA hG vA vG xA xG) (m : Nat) : ApS base W0 (W.drewN m) hA hG vA vG xA xG :=
 ⟨H.rA.same (fun _ _ _ _ _ => rfl), H.rG.same (fun _ _ _ _ _ => rfl), Kd.zbc H.aA m, Kd.zbc H.aG m, H.os, H.tape, H.output, H.size, H.rest⟩
theorem head_at {o B : Nat} {v : Value} {hs : List HD} (h : kH.R o W B tru v hs) {i : Nat} {x : HD} (hx : hs[i]? = some x) : ∃ ad c, v = .slice (some ad) hs.length c ∧ hs.length ≤ c ∧ W.cell? (ad.add i) = some (hdr x) := by
 have hi := (List.getElem?_eq_some_iff.1 hx).1; obtain ⟨A, c, e, hc, hC⟩ := Kd.zbe h; obtain ⟨ad, cs, e2, _, hK, hcell⟩ := Kd.C_get hC (none, 0, 0) (i : Int) (Int.natCast_nonneg _) (by omega)
 rw [Int.toNat_natCast] at hK hcell; subst e2; refine ⟨ad, c, e, hc, ?_⟩; rw [List.getD_eq_getElem?_getD, hx] at hK; have hK' : cs = [hdr x] := hK; subst hK'; have := hcell 0 _ rfl
 rwa [show i * kH.sz + 0 = i by simp [kH, Kd.scalar]] at this
end
theorem add_plain (b : Nat) (i : Nat) : (⟨b, 0, none⟩ : Addr).add i = ⟨b, i, none⟩ := by
 unfold Addr.add
 split <;> simp_all
theorem keptBut_block {W w : World} {may : MemPlace → Prop} (h : W.keptBut w may) {k : Nat} (hk : k < W.heap.size) (h1 : ∀ j, ¬ may (.cell k j)) (h2 : ¬ may (.map k)) : w.heap[k]? = W.heap[k]? := by
 have h3 := h.2.2 k hk; have hkw : k < w.heap.size := Nat.lt_of_lt_of_le hk h.size; rw [Array.getElem?_eq_getElem hk, Array.getElem?_eq_getElem hkw] at h3 ⊢; generalize W.heap[k] = o at *; generalize w.heap[k] = o' at *; cases o with
 | cells c t fr =>
  cases o' with
  | cells c' t' fr' =>
   obtain ⟨e1, e2, e3, e4⟩ := h3; subst e1 e2; have : c' = c := Array.ext (by omega) (fun j hj1 hj2 => by
    have := e4 j (h1 j); rw [Array.getElem?_eq_getElem hj1, Array.getElem?_eq_getElem hj2] at this; injection this)
   rw [this]
  | _ => cases h3
 | map es c =>
  cases o' with
  | map es' c' =>
   rcases h3 with h3 | ⟨e1, e2⟩
   ·exact absurd h3 h2
   ·subst e1 e2; rfl
  | _ => cases h3
 | _ => cases o' <;> first | exact h3 | cases h3
theorem append_both {P : Program} (w : World) {ops : Array Oper} {rest : List Oper} {o : Oper} {a : Act} {Q : Exit → Act → World → Prop} (hgd : o.guard = none) (s x : Operand) (t : TypeId)
  (ho : o.op = .call { callee := .builtin .append, args := #[s, x], argTypes := #[t, t] })
  {W : World} {e : TypeId} {size : Nat} {ao : Option Addr} {b off len cap base : Nat} {olds : List Value} (hc : Came W size ao b off len cap olds)
  (z : Value) (bytes : Nat) (ht : P.underlying t = some (.slice e)) (hinfo : (P.info? e).map (fun i => (i.zero, i.size, i.bytes)) = some (some z, size, bytes)) (hzs : z.cells.size = size) (hsz : 0 < size)
  {v : Value} {m : Nat} {ks : List Value} (hs : a.eval s = v) (h : Onto W e size ao b off len cap olds w v m ks) (hown : w.ownsRow base e size v (len + m) (olds ++ ks)) (hbase : base ≤ w.heap.size)
  (ad : Addr) (c : Nat) (news : List Value) (hx : a.eval x = .slice (some ad) 1 c) (hl : news.length = 1 * size) (hnews : ∀ j u, news[j]? = some u → w.cell? (ad.add j) = some u) (h1 : ∀ u ∈ news, u.oneCell' = true)
  (h63 : len + m + 1 ≤ maxLen) (hbytes : (len + m + 1) * bytes ≤ 140737488355328)
  (hK : ∀ v' w', Onto W e size ao b off len cap olds w' v' (m + 1) (ks ++ news) → w'.ownsRow base e size v' (len + m + 1) ((olds ++ ks) ++ news) → w'.tape = w.tape → wpList P ops Q rest (a.put o.dst v') w') : wpList P ops Q (o :: rest) a w := by
 refine wpList_plain hgd fun K hK' => ?_
 obtain ⟨i, hi, hz, hsize, hby⟩ := info_parts hinfo; obtain ⟨v', w', hrun, r⟩ := run_append_onto (P := P) hc t o.type i z bytes ht hi hz hsize hby hzs hsz h ad c news hl hnews h1 h63 hbytes; obtain ⟨v2, w2, hr2, ho2, hg2, _, _⟩ := run_append_own_at (P := P) w base t o.type e i z size bytes ht hi hz hsize hby hzs hsz v (len + m) _ hown ad 1 c news hl hnews h1 h63 hbytes hbase; have e9 : v2 = v' ∧ w2 = w' := by
  rw [hrun] at hr2; injection hr2 with q1 q2; exact ⟨q1.symm, q2.symm⟩
 obtain ⟨rfl, rfl⟩ := e9; unfold Oper.wp; simp [execOp, ho, resolve, invoke, builtin, hs, hx, hrun, Result.andThen]; exact hK' _ _ (hK v2 w2 r ho2 hg2.tape)
theorem own_prefix {W w : World} {e sz base n cap : Nat} {ao : Option Addr} {b : Nat} {xs ks : List Value} (h : W.ownsRow base e sz (.slice ao n cap) n xs) (hb : ∀ g, (Value.slice ao n cap).ownBlock = some g → g < W.heap.size ∧ b = g)
  (hk : W.keptBut w (fun p => ∃ j, j < ks.length ∧ j < (cap - n) * sz ∧ p = .cell b (0 + n * sz + j))) : w.ownsRow base e sz (.slice ao n cap) n xs := by
 rcases h.2 with ⟨e1, e2⟩ | ⟨g, cap', cur, hv, hbb, hkk, h1, h2, h3, h4⟩
 ·exact ⟨h.1, .inl ⟨e1, e2⟩⟩
 ·obtain ⟨hgl, rfl⟩ := hb g (by rw [hv]; rfl)
  have h9 := hk.2.2 b hgl; have hwl : b < w.heap.size := Nat.lt_of_lt_of_le hgl hk.size; rw [hkk, Array.getElem?_eq_getElem hwl] at h9; generalize hoo : w.heap[b] = o' at h9; cases o' with
  | cells c' t' fr' =>
   obtain ⟨e1, e2, e3, e4⟩ := h9; subst e1 e2; refine ⟨h.1, .inr ⟨b, cap', c', hv, hbb, by rw [Array.getElem?_eq_getElem hwl, hoo], h1, h2, by rw [e3]; exact h3, ?_⟩⟩
   rw [← h4]; apply List.ext_getElem?; intro j; by_cases hj : j < n * sz
   ·rw [List.getElem?_take_of_lt hj, List.getElem?_take_of_lt hj, Array.getElem?_toList, Array.getElem?_toList]; exact e4 j (fun ⟨j', _, _, e⟩ => by injection e with _ e; omega)
   ·rw [List.getElem?_eq_none (by rw [List.length_take]; omega), List.getElem?_eq_none (by rw [List.length_take]; omega)]
  | _ => cases h9
theorem came_of {e sz base : Nat} {W : World} {ao : Option Addr} {n cap : Nat} {xs : List Value} (h : W.ownsRow base e sz (.slice ao n cap) n xs) : Came W sz ao ((ao.map (·.block)).getD 0) 0 n cap xs := by
 rcases h.2 with ⟨e1, e2⟩ | ⟨g, cap', cur, hvv, hbb, hkk, h1, h2, h3, h4⟩
 ·injection e1 with e1 e3 e4; subst e1 e3 e4; exact ⟨Nat.le_refl _, fun h => absurd h (Nat.lt_irrefl _), fun h => absurd h (Nat.lt_irrefl _), h.1, fun j u hu => by
   have h9 := (List.getElem?_eq_some_iff.1 hu).1; have := h.1; omega, fun j hj => by omega⟩
 ·injection hvv with e1 e3 e4; subst e1 e4; refine ⟨h1, fun _ => rfl, fun _ => (Array.getElem?_eq_some_iff.1 hkk).1, h.1, fun j u hu => ?_, fun j hj => ⟨?_, zak hkk _⟩⟩
  ·have h9 := (List.getElem?_eq_some_iff.1 hu).1; have h10 := h.1; rw [Nat.zero_add]; rw [← hu]; exact h.cellAt j (by omega)
  ·have hlt : 0 + n * sz + j < cur.size := by
    have : (cap - n) * sz = cap * sz - n * sz := Nat.mul_sub_right_distrib _ _ _; omega
   have := zac hkk (0 + n * sz + j); rw [Array.getElem?_eq_getElem hlt] at this; show (W.cell? ⟨g, 0 + n * sz + j, none⟩).isSome = true; rw [this]; rfl
def LS (e sz base n0 : Nat) (m1 m2 : Nat → Nat → Value) (hs : List HD) (w : World) (ls : List HD) : Prop :=
 ∀ (j : Nat) (x : HD), ls[j]? = some x → ∃ h, hs[j]? = some h ∧ x.2.1 = h.2.1 + 70 ∧ ((hdr x).ownBlock = (hdr h).ownBlock ∨ ∃ b, (hdr x).ownBlock = some b ∧ n0 ≤ b) ∧
  ∃ ys, w.ownsRow base e sz (hdr x) (h.2.1 + 70) ys ∧ (∀ q u, q < h.2.1 * sz → ys[q]? = some u → u = m1 j q) ∧ ∀ q u, ys[h.2.1 * sz + q]? = some u → u = m2 j q
theorem LS.same {e sz base n0 : Nat} {m1 m2 : Nat → Nat → Value} {hs ls : List HD} {w w' : World} (H : LS e sz base n0 m1 m2 hs w ls) (hk : ∀ (j : Nat) (x : HD) k, ls[j]? = some x → (hdr x).ownBlock = some k → w'.heap[k]? = w.heap[k]?) : LS e sz base n0 m1 m2 hs w' ls := by
 intro j x hx; obtain ⟨h, h1, h2, h3, ys, h4, h5, h6⟩ := H j x hx; exact ⟨h, h1, h2, h3, ys, own_same h4 (fun k e => hk j x k hx e), h5, h6⟩
theorem LS.bel {e sz base n0 : Nat} {m1 m2 : Nat → Nat → Value} {hs ls : List HD} {w w' : World} (H : LS e sz base n0 m1 m2 hs w ls) (hb : Below w.heap.size w w') : LS e sz base n0 m1 m2 hs w' ls :=
 H.same (fun j x k hj hk => by
  obtain ⟨h, _, _, _, ys, h4, _⟩ := H j x hj; exact hb.block k (zbp h4 k hk).2.1)
theorem LS.snoc {e sz base n0 i : Nat} {m1 m2 : Nat → Nat → Value} {hs ls : List HD} {w : World} {h x : HD} {xs ks : List Value} (H : LS e sz base n0 m1 m2 hs w ls) (hi : hs[i]? = some h) (hl : ls.length = i) (hn : x.2.1 = h.2.1 + 70) (ha : (hdr x).ownBlock = (hdr h).ownBlock ∨ ∃ b, (hdr x).ownBlock = some b ∧ n0 ≤ b)
  (ho : w.ownsRow base e sz (hdr x) (h.2.1 + 70) (xs ++ ks)) (hxl : xs.length = h.2.1 * sz) (h1 : ∀ q u, xs[q]? = some u → u = m1 i q) (h2 : ∀ q u, ks[q]? = some u → u = m2 i q) : LS e sz base n0 m1 m2 hs w (ls ++ [x]) := by
 intro j y hy; rcases Nat.lt_or_ge j ls.length with c | c
 ·rw [List.getElem?_append_left c] at hy; exact H j y hy
 ·rw [List.getElem?_append_right c] at hy; have h9 := (List.getElem?_eq_some_iff.1 hy).1; simp only [List.length_cons, List.length_nil] at h9; obtain rfl : j = i := by omega
  rw [← hl, Nat.sub_self] at hy; cases hy; refine ⟨h, hi, hn, ha, xs ++ ks, ho, fun q u hq hu => ?_, fun q u hu => ?_⟩
  ·rw [List.getElem?_append_left (by omega)] at hu
   exact h1 q u hu
  ·rw [List.getElem?_append_right (by omega), show h.2.1 * sz + q - xs.length = q by omega] at hu
   exact h2 q u hu
theorem marksA2_step {i k : Nat} {ks : List Value} (hl : ks.length = k * 2) (h : ∀ q u, ks[q]? = some u → u = mkA2 i q) : ∀ q u, (ks ++ [.int .i64 8, .int .i64 (i : Int)])[q]? = some u → u = mkA2 i q := by
 intro q u hu; rcases Nat.lt_or_ge q ks.length with c | c
 ·rw [List.getElem?_append_left c] at hu; exact h q u hu
 ·rw [List.getElem?_append_right c] at hu; have h9 := (List.getElem?_eq_some_iff.1 hu).1; simp only [List.length_cons, List.length_nil] at h9; have : q = k * 2 ∨ q = k * 2 + 1 := by omega
  unfold mkA2; rcases this with rfl | rfl
  ·rw [hl, Nat.sub_self] at hu; cases hu; rw [if_pos (by omega)]
  ·rw [hl, show k * 2 + 1 - k * 2 = 1 by omega] at hu
   cases hu; rw [if_neg (by omega)]
theorem marksG2_step {i k : Nat} {ks : List Value} (hl : ks.length = k * 1) (h : ∀ q u, ks[q]? = some u → u = mkG2 i q) : ∀ q u, (ks ++ [.int .i64 (-9 - (i : Int))])[q]? = some u → u = mkG2 i q := by
 intro q u hu; rcases Nat.lt_or_ge q ks.length with c | c
 ·rw [List.getElem?_append_left c] at hu; exact h q u hu
 ·rw [List.getElem?_append_right c] at hu; have h9 := (List.getElem?_eq_some_iff.1 hu).1; simp only [List.length_cons, List.length_nil] at h9; have : q = k * 1 := by omega
  subst this; rw [hl, Nat.sub_self] at hu; cases hu; rfl
theorem grow_rest {e sz base : Nat} {W w : World} {ao : Option Addr} {n cap k : Nat} {xs ks : List Value} {v : Value} (hown : W.ownsRow base e sz (.slice ao n cap) n xs) (hon : Onto W e sz ao ((ao.map (·.block)).getD 0) 0 n cap xs w v k ks) (hsz : 0 < sz) (hk : ks.length = k * sz) (hpos : 0 < k) :
  ∀ q, q < W.heap.size → (Value.slice ao n cap).ownBlock ≠ some q → w.heap[q]? = W.heap[q]? := fun q hq hno => keptBut_block hon.kept hq (by
 rintro j' ⟨j, hj0, hj, e⟩; injection e with e1; have hcp : 0 < cap := by
  rcases Nat.eq_zero_or_pos cap with c | c
  ·subst c; simp at hj
  ·exact c
 have h9 := (came_of hown).addr hcp; rw [h9] at e1 hno; exact hno (by rw [e1]; rfl)) (by rintro ⟨j, _, _, e⟩; cases e)
theorem own_stands {e sz base : Nat} {W w : World} {ao : Option Addr} {n cap k : Nat} {xs ks : List Value} {v : Value} (hown : W.ownsRow base e sz (.slice ao n cap) n xs) (hon : Onto W e sz ao ((ao.map (·.block)).getD 0) 0 n cap xs w v k ks) : w.ownsRow base e sz (.slice ao n cap) n xs :=
 own_prefix hown (fun g' hg' => by
  have h9 := zbp hown g' hg'; refine ⟨h9.2.1, ?_⟩; cases ao with
  | none => cases hg'
  | some a =>
   obtain ⟨bb, oo, nn⟩ := a; have : bb = g' := by
    rcases hown.2 with ⟨e1, _⟩ | ⟨g, cap', cur, hv, _⟩
    ·cases e1
    ·injection hv with e1; injection e1 with e1; injection e1 with e1 e2 e3; subst e1 e2 e3; simp [Value.ownBlock] at hg'; exact hg'
   exact this) hon.kept
def But (W w : World) (v : Value) : Prop := w.os = W.os ∧ w.tape = W.tape ∧ w.output = W.output ∧ W.heap.size ≤ w.heap.size ∧ ∀ q, q < W.heap.size → v.ownBlock ≠ some q → w.heap[q]? = W.heap[q]?
theorem But.of_grown {W w : World} {v : Value} (h : W.grownBy w v.ownBlock) : But W w v := ⟨h.os, h.tape, h.output, h.size, fun q hq hne => h.block q hq (fun e => hne e.symm)⟩
theorem But.alloc {W w : World} {v : Value} {o : Obj} (h : But (W.alloc o) w v) : But W w v := ⟨h.1, h.2.1, h.2.2.1, by have := h.2.2.2.1; rw [World.size_alloc] at this; omega, fun q hq hne => (h.2.2.2.2 q (by rw [World.size_alloc]; omega) hne).trans (Below.heap_alloc W o q hq)⟩
section
variable {e sz base : Nat} {W w : World} {v : Value}
theorem own_other {e' sz' base' n n' : Nat} {u : Value} {xs ys : List Value} (hb : But W w v) (hv : W.ownsRow base e sz v n xs) (hu : W.ownsRow base' e' sz' u n' ys) (hne : e ≠ e') : w.ownsRow base' e' sz' u n' ys :=
 own_same hu (fun k hk => hb.2.2.2.2 k (zbp hu k hk).2.1 (fun e1 => by
  obtain ⟨_, _, c1, h1⟩ := zbp hu k hk; obtain ⟨_, _, c2, h2⟩ := zbp hv k e1; rw [h1] at h2; injection h2 with h2; injection h2 with _ h2; exact hne h2.symm))
theorem rws_other {e' sz' base' n : Nat} {xs : List Value} {hs : List HD} {xss : List (List Value)} (hb : But W w v) (hv : W.ownsRow base e sz v n xs) (H : Rws e' sz' base' W hs xss) (hne : e ≠ e') : Rws e' sz' base' w hs xss :=
 ⟨H.len, fun j h ys hj hy => own_other hb hv (H.row j h ys hj hy) hne⟩
theorem R_other {o B n : Nat} {u : Value} {xs : List Value} {hs : List HD} (hb : But W w v) (hv : W.ownsRow base e sz v n xs) (H : kH.R o W B tru u hs) (hne : e ≠ o) : kH.R o w B tru u hs := by
 refine Kd.zbg (Kd.R_step (Kd.R_bound H) (fun k hk hlt => hb.2.2.2.2 k hlt (fun e1 => ?_))) (fun _ hk => hk.1)
 obtain ⟨_, _, _, q, hq, cells, hc⟩ := hk; have hq : q = o := by rw [Bld.EH] at hq; exact List.mem_singleton.1 hq
 subst hq; obtain ⟨_, _, c2, h2⟩ := zbp hv k e1; rw [hc] at h2; injection h2 with h2; injection h2 with _ h2; exact hne h2.symm
theorem LS_other {e' sz' base' n0 n : Nat} {m1 m2 : Nat → Nat → Value} {xs : List Value} {hs ls : List HD} (hb : But W w v) (hv : W.ownsRow base e sz v n xs) (H : LS e' sz' base' n0 m1 m2 hs W ls) (hne : e ≠ e') : LS e' sz' base' n0 m1 m2 hs w ls := by
 intro j x hx; obtain ⟨h, h1, h2, h3, ys, h4, h5, h6⟩ := H j x hx; exact ⟨h, h1, h2, h3, ys, own_other hb hv h4 hne, h5, h6⟩
end
section
variable {base : Nat} {W0 W w : World} {hA hG : List HD} {vA vG : Value} {xA xG : List (List Value)}
theorem ApS.growA (H : ApS base W0 W hA hG vA vG xA xG) (ha : Aparts hA) {i : Nat} {h : HD} {xs : List Value} (hi : hA[i]? = some h) (hx : xA[i]? = some xs) (hb : But W w (hdr h)) (hst : w.ownsRow base 93 2 (hdr h) h.2.1 xs) : ApS base W0 w hA hG vA vG xA xG := by
 have hv := H.rA.row i h xs hi hx; refine ⟨⟨H.rA.len, fun j h' ys hj hy => ?_⟩, rws_other hb hv H.rG (by decide), R_other hb hv H.aA (by decide), R_other hb hv H.aG (by decide), hb.1.trans H.os, hb.2.1.trans H.tape, hb.2.2.1.trans H.output, Nat.le_trans H.size hb.2.2.2.1, fun k h1 h2 h3 => (hb.2.2.2.2 k (Nat.lt_of_lt_of_le h1 H.size) (h2 i h hi)).trans (H.rest k h1 h2 h3)⟩
 by_cases hji : j = i
 ·subst hji; rw [hi] at hj; cases hj; rw [hx] at hy; cases hy; exact hst
 ·have h9 := H.rA.row j h' ys hj hy; exact own_same h9 (fun k hk => hb.2.2.2.2 k (zbp h9 k hk).2.1 (ha j i h' h hji hj hi k hk))
theorem ApS.growG (H : ApS base W0 W hA hG vA vG xA xG) (ha : Aparts hG) {i : Nat} {h : HD} {xs : List Value} (hi : hG[i]? = some h) (hx : xG[i]? = some xs) (hb : But W w (hdr h)) (hst : w.ownsRow base 3 1 (hdr h) h.2.1 xs) : ApS base W0 w hA hG vA vG xA xG := by
 have hv := H.rG.row i h xs hi hx; refine ⟨rws_other hb hv H.rA (by decide), ⟨H.rG.len, fun j h' ys hj hy => ?_⟩, R_other hb hv H.aA (by decide), R_other hb hv H.aG (by decide), hb.1.trans H.os, hb.2.1.trans H.tape, hb.2.2.1.trans H.output, Nat.le_trans H.size hb.2.2.2.1, fun k h1 h2 h3 => (hb.2.2.2.2 k (Nat.lt_of_lt_of_le h1 H.size) (h3 i h hi)).trans (H.rest k h1 h2 h3)⟩
 by_cases hji : j = i
 ·subst hji; rw [hi] at hj; cases hj; rw [hx] at hy; cases hy; exact hst
 ·have h9 := H.rG.row j h' ys hj hy; exact own_same h9 (fun k hk => hb.2.2.2.2 k (zbp h9 k hk).2.1 (ha j i h' h hji hj hi k hk))
theorem ApS.grownH (H : ApS base W0 W hA hG vA vG xA xG) {o B : Nat} {u : Value} {ls : List HD} (hB : W0.heap.size ≤ B) (ho : kH.R o W B tru u ls) (h1 : o ≠ 93 ∧ o ≠ 3) (hAu : vA.ownBlock ≠ none → vA.ownBlock ≠ u.ownBlock) (hGu : vG.ownBlock ≠ none → vG.ownBlock ≠ u.ownBlock) (hg : W.grownBy w u.ownBlock) : ApS base W0 w hA hG vA vG xA xG := by
 have hb := But.of_grown hg; obtain ⟨inner, hown⟩ := Kd.R_own ho; have key : ∀ (v : Value) (o' : Nat) (hs : List HD), kH.R o' W W0.heap.size tru v hs → (v.ownBlock ≠ none → v.ownBlock ≠ u.ownBlock) → kH.R o' w W0.heap.size tru v hs := fun v o' hs hR hne => by
  refine Kd.zbg (Kd.R_grown (Kd.R_tight Bld.EH hR) hg (fun k hk e => ?_)) (fun _ _ => trivial)
  exact hne (by rw [← hk]; simp) (hk.symm.trans e)
 refine ⟨rws_other hb hown H.rA h1.1, rws_other hb hown H.rG h1.2, key _ _ _ H.aA hAu, key _ _ _ H.aG hGu, hb.1.trans H.os, hb.2.1.trans H.tape, hb.2.2.1.trans H.output, Nat.le_trans H.size hb.2.2.2.1, fun k h1 h2 h3 => (hb.2.2.2.2 k (Nat.lt_of_lt_of_le h1 H.size) (fun e => ?_)).trans (H.rest k h1 h2 h3)⟩
 have := (zbp hown k e).1; omega
end
theorem apart_blocks {o B : Nat} {W : World} {u v : Value} {ls : List HD} (hlt : ∀ k, v.ownBlock = some k → k < B) (ho : kH.R o W B tru u ls) : v.ownBlock ≠ none → v.ownBlock ≠ u.ownBlock := by
 intro h e; obtain ⟨inner, hown⟩ := Kd.R_own ho; cases hv : v.ownBlock with
 | none => exact h hv
 | some k =>
  have h1 := hlt k hv; have h2 := (zbp hown k (by rw [← e, hv])).1
  omega
theorem R_lt {o B : Nat} {W : World} {u : Value} {ls : List HD} (ho : kH.R o W B tru u ls) : ∀ k, u.ownBlock = some k → k < W.heap.size := fun k hk => by
 obtain ⟨inner, hown⟩ := Kd.R_own ho; exact (zbp hown k hk).2.1
theorem own_grownH {o B base e sz n : Nat} {W w : World} {u v : Value} {xs : List Value} {ls : List HD} (ho : kH.R o W B tru u ls) (hg : W.grownBy w u.ownBlock) (h : W.ownsRow base e sz v n xs) (hne : o ≠ e) : w.ownsRow base e sz v n xs := by
 obtain ⟨inner, hown⟩ := Kd.R_own ho; exact own_other (But.of_grown hg) hown h hne
theorem R_grownH {o o' B B' : Nat} {W w : World} {u v : Value} {ls ls' : List HD} (ho : kH.R o W B tru u ls) (hg : W.grownBy w u.ownBlock) (h : kH.R o' W B' tru v ls') (hne : o ≠ o') : kH.R o' w B' tru v ls' := by
 obtain ⟨inner, hown⟩ := Kd.R_own ho; exact R_other (But.of_grown hg) hown h hne
theorem LS.grow {e sz base n0 : Nat} {m1 m2 : Nat → Nat → Value} {hs ls : List HD} {W w : World} (H : LS e sz base n0 m1 m2 hs W ls) (ha : Aparts hs) {i : Nat} {h : HD} (hi : hs[i]? = some h) (hl : ls.length ≤ i) (hb : But W w (hdr h)) (hn : ∀ k, (hdr h).ownBlock = some k → k < n0) : LS e sz base n0 m1 m2 hs w ls :=
 H.same (fun j x k hx hk => by
  obtain ⟨h', h1, h2, h3, ys, h4, h5, h6⟩ := H j x hx; refine hb.2.2.2.2 k (zbp h4 k hk).2.1 (fun e => ?_)
  have hjl := (List.getElem?_eq_some_iff.1 hx).1; rcases h3 with h3 | ⟨b, h3, h7⟩
  ·exact ha j i h' h (by omega) h1 hi k (by rw [← h3]; exact hk) e
  ·rw [h3] at hk; have q : b = k := by injection hk
   subst q; have := hn b e; omega)
theorem LS.grownH {e sz base n0 o B : Nat} {m1 m2 : Nat → Nat → Value} {hs ls ls' : List HD} {W w : World} {u : Value} (H : LS e sz base n0 m1 m2 hs W ls) (ho : kH.R o W B tru u ls') (hne : o ≠ e) (hg : W.grownBy w u.ownBlock) : LS e sz base n0 m1 m2 hs w ls := by
 obtain ⟨inner, hown⟩ := Kd.R_own ho; exact LS_other (But.of_grown hg) hown H hne
theorem grown_row {e sz base : Nat} {W w : World} {ao : Option Addr} {n cap k : Nat} {xs ks : List Value} {v : Value} (hown : W.ownsRow base e sz (.slice ao n cap) n xs) (hon : Onto W e sz ao ((ao.map (·.block)).getD 0) 0 n cap xs w v k ks) (hsz : 0 < sz) (hk : ks.length = k * sz) (hpos : 0 < k) (htp : w.tape = W.tape) : But W w (.slice ao n cap) ∧ w.ownsRow base e sz (.slice ao n cap) n xs :=
 ⟨⟨hon.kept.1, htp, hon.kept.2.1, hon.kept.size, grow_rest hown hon hsz hk hpos⟩, own_stands hown hon⟩
theorem val_block {e sz base : Nat} {W w : World} {ao : Option Addr} {b n cap g cp k : Nat} {xs ks : List Value} (hon : Onto W e sz ao b 0 n cap xs w (.slice (some ⟨g, 0, none⟩) (n + k) cp) k ks) : (Value.slice (some ⟨g, 0, none⟩) (n + k) cp).ownBlock = (Value.slice ao n cap).ownBlock ∨ ∃ b, (Value.slice (some ⟨g, 0, none⟩) (n + k) cp).ownBlock = some b ∧ W.heap.size ≤ b := by
 rcases hon.val with ⟨_, e⟩ | ⟨_, e⟩
 ·injection e with e1; rw [← e1]; exact .inl rfl
 ·exact .inr ⟨g, rfl, (zbp e g rfl).1⟩
theorem cellsA1 {W : World} {base g N cap k i : Nat} {ys : List Value} (ho : W.ownsRow base 93 2 (.slice (some ⟨g, 0, none⟩) N cap) N ys) (hk : k < N) (hm : ∀ q u, q < k * 2 + 2 → k * 2 ≤ q → ys[q]? = some u → u = mkA1 i q) :
  W.cell? ⟨g, k * 2, none⟩ = some (.int .i64 9) ∧ W.cell? ⟨g, k * 2 + 1, none⟩ = some (.int .i64 (i : Int)) := by
 have hl : ys.length = N * 2 := ho.1; have e : ∀ q, q < k * 2 + 2 → k * 2 ≤ q → W.cell? ⟨g, q, none⟩ = some (mkA1 i q) := fun q h1 h2 => by
  have hq : q < ys.length := by omega
  rw [ho.cellAt q (by omega), List.getElem?_eq_getElem hq, hm q _ h1 h2 (List.getElem?_eq_getElem hq)]
 refine ⟨(e _ (by omega) (by omega)).trans ?_, (e _ (by omega) (by omega)).trans ?_⟩
 ·unfold mkA1; rw [if_pos (by omega)]
 ·unfold mkA1; rw [if_neg (by omega)]
theorem cellsA2 {W : World} {base g N cap k i : Nat} {ys : List Value} (ho : W.ownsRow base 93 2 (.slice (some ⟨g, 0, none⟩) N cap) N ys) (hk : k < N) (n : Nat) (hn : n ≤ k) (hm : ∀ q u, ys[n * 2 + q]? = some u → u = mkA2 i q) :
  W.cell? ⟨g, k * 2, none⟩ = some (.int .i64 8) ∧ W.cell? ⟨g, k * 2 + 1, none⟩ = some (.int .i64 (i : Int)) := by
 have hl : ys.length = N * 2 := ho.1; have e : ∀ q, q < k * 2 + 2 → k * 2 ≤ q → W.cell? ⟨g, q, none⟩ = some (mkA2 i (q - n * 2)) := fun q h1 h2 => by
  have hq : q < ys.length := by omega
  have h9 := hm (q - n * 2) ys[q] (by rw [show n * 2 + (q - n * 2) = q by omega]; exact List.getElem?_eq_getElem hq)
  rw [ho.cellAt q (by omega), List.getElem?_eq_getElem hq, h9]
 refine ⟨(e _ (by omega) (by omega)).trans ?_, (e _ (by omega) (by omega)).trans ?_⟩
 ·unfold mkA2; rw [if_pos (by omega)]
 ·unfold mkA2; rw [if_neg (by omega)]
theorem cellsG1 {W : World} {base g N cap k i : Nat} {ys : List Value} (ho : W.ownsRow base 3 1 (.slice (some ⟨g, 0, none⟩) N cap) N ys) (hk : k < N) (hm : ∀ q u, q = k → ys[q]? = some u → u = mkG1 i q) : W.cell? ⟨g, k, none⟩ = some (.int .i64 (100000 + (i : Int))) := by
 have hl : ys.length = N * 1 := ho.1; have hq : k < ys.length := by omega
 rw [ho.cellAt k (by omega), List.getElem?_eq_getElem hq, hm k _ rfl (List.getElem?_eq_getElem hq)]
 rfl
theorem cellsG2 {W : World} {base g N cap k i : Nat} {ys : List Value} (ho : W.ownsRow base 3 1 (.slice (some ⟨g, 0, none⟩) N cap) N ys) (hk : k < N) (n : Nat) (hn : n ≤ k) (hm : ∀ q u, ys[n * 1 + q]? = some u → u = mkG2 i q) : W.cell? ⟨g, k, none⟩ = some (.int .i64 (-9 - (i : Int))) := by
 have hl : ys.length = N * 1 := ho.1; have hq : k < ys.length := by omega
 have h9 := hm (k - n) ys[k] (by rw [show n * 1 + (k - n) = k by omega]; exact List.getElem?_eq_getElem hq)
 rw [ho.cellAt k (by omega), List.getElem?_eq_getElem hq, h9]
 rfl
end Apt
end Go.Proofs.YtcijanmckhlpiaaDoor
