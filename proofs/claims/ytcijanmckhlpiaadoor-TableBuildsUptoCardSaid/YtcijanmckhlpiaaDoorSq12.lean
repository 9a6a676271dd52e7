-- Texts of this seat, cut to what is used and merged (by shake.py).
import Derived.Test.YtcijanmckhlpiaaDoorSq9
import Derived.Test.YtcijanmckhlpiaaDoorSq10
import Derived.Test.YtcijanmckhlpiaaDoorSq11
import Derived.Carry
set_option linter.unusedVariables false
set_option linter.unusedSimpArgs false
namespace Go.Proofs.YtcijanmckhlpiaaDoor
open Go.RowKit Go.Proofs.YtcijanmckhlpiaaDoorW.PrintWords Go.Proofs.YtcijanmckhlpiaaDoorW.PrintLast Go.Proofs.YtcijanmckhlpiaaDoorW.PrintMore Go.Proofs.YtcijanmckhlpiaaDoor.PTableBuilds
namespace Bld
theorem gate_ins {P : Program} {ops : Array Oper} {rest : List Oper} {o : Oper} {a : Act} {Q : Exit → Act → World → Prop} {W : World} {t : TypeId} {m k x : Operand} (_ho : o.op = .insert t m k x) (h : wpList P ops Q (o :: rest) a W) : wpList P ops Q (o :: rest) a W := h
theorem insert_own {H : Type} {P : Program} {w : World} {ops : Array Oper} {rest : List Oper} {o : Oper} {a : Act} {Q : Exit → Act → World → Prop}
  (hg : o.guard = none) (hd : o.dst = none) (m x v : Operand) (t : TypeId) (hop : o.op = Op.insert t m x v)
  (k e : TypeId) (K : Maps.Keyed P k) (ht : P.underlying t = some (.map k e)) (R : Value → Option (DataW H × List MemPlace)) (b n : Nat) (D : DataW H)
  (hm : a.eval m = .map (some b)) (hown : w.ownsMap P k R b n D) (hn : n < maxLen) (key val : Value) (kl : Lit) (hx : a.eval x = key) (hv : a.eval v = val) (hkey : keyOf P k key = some kl)
  (d : DataW H) (ps : List MemPlace) (hval : R val = some (d, ps))
  (hK : ∀ w', w'.ownsMap P k R b (n + 1) (D.put kl d) → w.grownBy w' (some b) → wpList P ops Q rest a w') :
  wpList P ops Q (o :: rest) a w := by
 refine wpList_plain hg fun K' hK' => ?_
 obtain ⟨w', hrun, r1, r2⟩ := hown.update K ht hn hkey hval; unfold Oper.wp; have hr : (execOp a.eval o).run P w = .ok .skip w' := by
  unfold execOp; rw [hop]; simp only [hm, hx, hv]; simp [hrun, Result.andThen]
 rw [hr]; show K' (a.put o.dst undef) w'; rw [hd]; exact hK' _ _ (hK w' r1 r2)
theorem lit_one {α : Type} {d : Kd α} {e : Nat} {W : World} {base g : Nat} {p : α} {v : Value} {okp : Nat → Prop} (h1 : d.sz = 1) (hb : W.heap[g]? = some (.cells #[v] e (0, 0))) (hge : base ≤ g) (hM : d.M W base okp p [v]) (hok : ∀ k, okp k → k ≠ g) : d.R e W base tru (.slice (some ⟨g, 0, none⟩) 1 1) [p] := by
 refine ⟨fun _ _ => trivial, [v], ⟨by rw [h1]; rfl, .inr ⟨g, 1, #[v], rfl, hge, hb, Nat.le_refl _, by unfold maxLen; omega, by rw [h1]; rfl, by rw [h1]; rfl⟩⟩, ⟨by rw [h1]; rfl, fun j q hj => ?_⟩⟩
 cases j with
 | zero =>
  have e : p = q := by simpa using hj
  subst e; rw [h1]; exact d.M_mono (fun k hk => ⟨trivial, fun e => hok k hk (by injection e)⟩) hM
 | succ j => simp at hj
theorem closeN_fit {T : Nat} {sp : List S230} {of_ : List (List Nat)} {M : Nat} (hf : FitB T M sp of_) : ∀ (k : Nat) (st : List Nat × List Nat) (r : List Nat), Pot sp.length st → closeN T sp of_ k st = some r → r.length = sp.length ∧ ∀ y ∈ r, y < zbi
 | 0, st, r, _, h => by simp [closeN] at h
 | k + 1, (s, todo), r, hp, h => by
  rcases List.eq_nil_or_concat todo with rfl | ⟨td, n, rfl⟩
  ·have e : s = r := by simpa [closeN] using h
   subst e; exact ⟨hp.len, hp.lt⟩
  ·rw [List.concat_eq_append] at hp h; have hpt : Pot sp.length (s, td) := by
    have h2 := hp.pop
    rwa [List.dropLast_concat] at h2
   have hn : n < sp.length := hp.td n (by simp)
   simp only [closeN, List.getLast?_append, List.getLast?_singleton, Option.some_or, List.dropLast_concat] at h
   split at h
   ·exact closeN_fit hf k _ r hpt h
   ·rename_i hs
    refine closeN_fit hf k _ r (Pot.puts (hf.looks_lt hpt.lt hn) _ _ hpt ?_) h; have hsy := hf.sym _ (rdSp_mem hn); exact (hf.starts _ (rdOfs_mem (by have := hf.mlen; omega))).2
theorem keyB_size (l : List S166) : (keyB l).size = (keyS l).length := strOfNums_size _
theorem keyB_max (l : List S166) (h : l.length ≤ 1048576) : (strOfNums (keyS l)).size ≤ maxLen := by
 have h1 := keyB_size l; have h2 := keyS_len l; unfold keyB at h1; unfold maxLen; omega
theorem at_Sl {α : Type} {d : Kd α} {e : Nat} {W : World} {A : Option Addr} {n : Nat} {xs : List (List α)} (h : (Kd.slice e d).C W A n xs) {i : Nat} {x : List α} (hx : xs[i]? = some x) : ∃ ad A0 c0, A = some ad ∧ W.cell? (ad.add i) = some (.slice A0 x.length c0) ∧ x.length ≤ c0 ∧ d.C W A0 x.length x := by
 have hi := (List.getElem?_eq_some_iff.1 hx).1; have hn : xs.length = n := h.1; obtain ⟨ad, c, e', _, hK, hc⟩ := Kd.C_get h [] (i : Int) (Int.natCast_nonneg _) (by omega)
 rw [Int.toNat_natCast] at hK hc; rw [List.getD_eq_getElem?_getD, hx] at hK; obtain ⟨A0, c0, rfl, hl, hC⟩ := hK; refine ⟨ad, A0, c0, e', ?_, hl, hC⟩; have := hc 0 _ rfl
 rwa [show i * (Kd.slice e d).sz + 0 = i by simp [Kd.slice]] at this
theorem R_zeros (W : World) {B : Nat} (hB : B ≤ W.heap.size) (K : Nat) (hK : K ≤ 192) : kI.R 3 (W.alloc (.cells (Array.replicate K (Value.int .i64 0)) 3)) B tru (.slice (some ⟨W.heap.size, 0, none⟩) K K) (List.replicate K 0) := by
 refine Kd.R_of_own (enc := Value.int .i64) ?_ (fun _ _ => trivial)
 rw [List.length_replicate]; refine ⟨by rw [encs_length, List.length_replicate, Nat.mul_one], .inr ⟨W.heap.size, K, _, rfl, hB, zau W _, Nat.le_refl _, by unfold maxLen; omega, by simp, ?_⟩⟩
 unfold encs; rw [Nat.mul_one, Array.toList_replicate, List.take_of_length_le (by simp), List.map_replicate]
theorem Mr.mapped {W W1 : World} {base go bm n : Nat} {D : DU} {vo : List Value} {xs : List (List S166)} (h : Mr W base go vo xs) (hm : OM W bm n D) (hg : W.grownBy W1 (some bm)) : Mr W1 base go vo xs :=
 ⟨zas h.ob hg (fun e => by cases e; exact hm.ne_cells h.ob rfl), h.rows.grown hg (fun j v q hv hq e => by
  cases e; obtain ⟨cells, hc⟩ := h.rows.typed hv hq; exact hm.ne_cells hc rfl)⟩
theorem Mr.hdr {W : World} {base go : Nat} {vo : List Value} {xs : List (List S166)} (h : Mr W base go vo xs) {y : Nat} {x : List S166} (hx : xs[y]? = some x) : ∃ A c, vo[y]? = some (.slice A x.length c) := by
 obtain ⟨hy, _⟩ := List.getElem?_eq_some_iff.1 hx; have hv : vo[y]? = some (vo[y]'(by have := h.rows.len; omega)) := List.getElem?_eq_getElem _
 obtain ⟨A, c, e, _, _⟩ := Kd.zbb (h.rows.row y _ x hv hx); exact ⟨A, c, by rw [hv, e]⟩
theorem Mr.hdrC {W : World} {base go : Nat} {vo : List Value} {xs : List (List S166)} (h : Mr W base go vo xs) {y : Nat} {x : List S166} (hx : xs[y]? = some x) {A : Option Addr} {n c : Nat} (hv : vo[y]? = some (.slice A n c)) : k166.C W A x.length x := (Kd.zbh (h.rows.row y _ x hv hx)).2.2
theorem set_row2 {row : List Int} {y K : Nat} (hl : row.length = y) (a x : Int) : ((row ++ [a]) ++ List.replicate (K - (y + 1)) 0).set y x = (row ++ [x]) ++ List.replicate (K - (y + 1)) 0 := by
 subst hl; rw [List.append_assoc, List.set_append_right _ _ (Nat.le_refl _), Nat.sub_self, List.singleton_append, List.set_cons_zero, List.append_assoc]; rfl
theorem below_step' {w W W1 : World} (h : Below w.heap.size w W) (k : Below W.heap.size W W1) : Below w.heap.size w W1 := zam h k
theorem len_wf {n : Nat} (h : n ≤ 2048) : (Lit.int .i64 (n : Int)).wf = true := by
 have e : wrap64 (n : Int) = (n : Int) := by unfold wrap64; omega
 rw [← e]; exact wrap64_wf _
theorem wf0 : (Lit.int .i64 (0 : Int)).wf = true := len_wf (n := 0) (by decide)
theorem info119 : (Tryd.prog.info? 119).map (fun i => (i.zero, i.size, i.bytes)) = some (some (.slice none 0 0), 1, 24) := by kernel_rfl
abbrev kLs : Kd (List S178) := Kd.slice 178 k178
theorem add_og (og n : Nat) : (⟨og, 0, none⟩ : Addr).add n = ⟨og, n, none⟩ := by
 unfold Addr.add
 split <;> simp_all
theorem R_at {α : Type} {d : Kd α} {e : Nat} {W : World} {base : Nat} {okp : Nat → Prop} {v : Value} {xs : List α} (h : d.R e W base okp v xs) {b : Nat} (hb : v.ownBlock = some b) : ∃ cap, v = .slice (some ⟨b, 0, none⟩) xs.length cap := by
 obtain ⟨h0, inner, ⟨hl, hor⟩, hr⟩ := h; rcases hor with ⟨rfl, _⟩ | ⟨g, cap, cells, rfl, _⟩
 ·simp [Value.ownBlock] at hb
 ·simp [Value.ownBlock] at hb; subst hb; exact ⟨cap, rfl⟩
theorem info169 : (Tryd.prog.info? 169).map (fun i => (i.zero, i.size, i.bytes)) = some (some (.slice none 0 0), 1, 24) := by kernel_rfl
theorem drop_of_get {α : Type} {xs : List α} {y : Nat} {x : α} (h : xs[y]? = some x) : xs.drop y = x :: xs.drop (y + 1) := by
 obtain ⟨hy, he⟩ := List.getElem?_eq_some_iff.1 h; rw [List.drop_eq_getElem_cons hy, he]
theorem set_row {row : List Int} {y K : Nat} (hy : y < K) (hl : row.length = y) (x : Int) : (row ++ List.replicate (K - y) 0).set y x = (row ++ [x]) ++ List.replicate (K - (y + 1)) 0 := by
 subst hl; rw [List.set_append_right _ _ (Nat.le_refl _), Nat.sub_self, List.append_assoc]
 congr 1
 rw [show K - row.length = (K - (row.length + 1)) + 1 by omega, List.replicate_succ, List.set_cons_zero]
 rfl
theorem fitM_moved {sp : List S230} {s : List Nat} {y : Nat} (hN : sp.length ≤ 1048576) (hl : s.length = sp.length) (hlt : ∀ x ∈ s, x < zbi) (hnx : ∀ i, i + 1 = sp.length → (rdSp sp i).f2 < 0) : FitM sp.length (marksOf sp s y s.length) := by
 have hmem : ∀ m ∈ marksOf sp s y s.length, ∃ i, i < s.length ∧ (rdSp sp i).f2 = (y : Int) ∧ m = ⟨((i + 1 : Nat) : Int), ((fst s i : Nat) : Int)⟩ := by
  intro m hm; unfold marksOf at hm; rw [List.mem_filterMap] at hm; obtain ⟨i, hi, hm⟩ := hm; rw [List.mem_range] at hi
  split at hm
  ·rename_i h
   cases hm; exact ⟨i, hi, h.2, rfl⟩
  ·cases hm
 refine ⟨Nat.le_trans (marksOf_len sp s y s.length) (by omega), fun m hm => ?_, fun m hm => ?_⟩
 ·obtain ⟨i, hi, hy, rfl⟩ := hmem m hm; have h1 : i + 1 ≠ sp.length := fun e => by have := hnx i e; omega
  show 0 ≤ ((i + 1 : Nat) : Int) ∧ ((i + 1 : Nat) : Int) < (sp.length : Int); omega
 ·obtain ⟨i, hi, hy, rfl⟩ := hmem m hm; have := fst_lt hlt i; unfold zbi at this; show 0 ≤ ((fst s i : Nat) : Int) ∧ ((fst s i : Nat) : Int) < 18446744073709551616; omega
def RetSets (w : World) (sp : List S230) (res : Option (List (List Nat) × List (List Int))) (e : Ending) (w' : World) : Prop := Below w.heap.size w w' ∧ match res with
 | none => e = .returned (.tuple #[.slice none 0 0, .slice none 0 0, .int .i64 120])
 | some (ss, gs) => ∃ A c B d, e = .returned (.tuple #[.slice A ss.length c, .slice B gs.length d, .int .i64 0]) ∧ (Kd.slice 178 k178).C w' A ss.length (ss.map fun s => zbl sp s s.length) ∧ kGo.C w' B gs.length gs
set_option maxRecDepth 100000 in
set_option maxHeartbeats 4000000 in
theorem sets_any (A : Option Addr) (c : Nat) (l : List S112) (B : Option Addr) (d : Nat) (m : List S115) (C : Option Addr) (e : Nat) (ps : List S77) (w : World)
  (hg : GR w A c l B d m C e ps) (hf : Fair l.length m.length ps) (kr : Nat) (hri : items_right.f kr l m ps = some true) (k : Nat) (s : FV) (hk : solveN l.length ps k (initF l.length, noV) = some s) (hfit : Fit s) (hT : Tab64 w)
  (hfb : FitB l.length m.length (zbc s.1 s.2 0 ps) (zbo m.length ps)) (hnx : ∀ i, i + 1 = (zbc s.1 s.2 0 ps).length → (rdSp (zbc s.1 s.2 0 ps) i).f2 < 0) (hp0 : 0 < ps.length) (kf kg : Nat) (res : Option (List (List Nat) × List (List Int))) (hres : setsN l.length m.length (zbc s.1 s.2 0 ps) (zbo m.length ps) kf kg = some res) :
  Calls Tryd.prog 40 #[.agg #[.slice A l.length c, .slice B m.length d, .slice C ps.length e]] w (RetSets w (zbc s.1 s.2 0 ps) res) := by
 have HG := Lib.hid hg; have HF := Lib.hid hf; have HRI := Lib.hid hri; have HK := Lib.hid hk; have HFT := Lib.hid hfit; have HTB := Lib.hid hT; have HFB := Lib.hid hfb; have HNX := Lib.hid hnx; have t1 := hf.t1; have t64 := hf.t64; have m128 := hf.m128; have hspl : 0 < (zbc s.1 s.2 0 ps).length := by
  rw [spotsS_len]; have := dots_len ps; omega
 have hN := hfb.n20; generalize hsp : zbc s.1 s.2 0 ps = sp at *; generalize hof : zbo m.length ps = of_ at *; have HSP := Lib.hid hsp; have HOF := Lib.hid hof; have HRES := Lib.hid hres; have hbA := zac (Below.refl w.heap.size w) (.cells #[.slice A l.length c, .slice B m.length d, .slice C ps.length e] 51); have HG1 := Lib.hid (hg.below hbA); have HX0 := Lib.hid (zau w (.cells #[.slice A l.length c, .slice B m.length d, .slice C ps.length e] 51)); have HBA := Lib.hid hbA; clear hg hf hri hk hfit hT hfb hnx hbA hsp hof hres
 go_enter Tryd.func40, Tryd.ntmps40
 go_wp2_with (go_at_call 63; refine (items_right.calls kr A c l B d m C e ps true _ HG1.out.hA HG1.out.cA HG1.out.hB HG1.out.cB HG1.out.hC HG1.out.cC HRI.out).mono ?_; rintro e1 w1 ⟨rfl, hb1⟩; refine Hid.out ?_)
 refine Lib.hid ?_; have HX1 := Lib.hid (zak HX0.out hb1); have HB1 := Lib.hid (zam HBA.out hb1); clear HX0 HBA HG1 hb1; have hg0 := zaa HX1.out 0; have hg1 := zaa HX1.out 1; have hg2 := zaa HX1.out 2; simp at hg0 hg1 hg2
 go_wp2_with (go_at_call 64; refine (newBook_any A c l B d m C e ps _ (HG.out.below HB1.out) HF.out k s HK.out HFT.out).mono ?_; rintro e2 w2 ⟨gb, rfl, hbk⟩; refine Hid.out ?_)
 refine Lib.hid ?_; obtain ⟨go, vsp, vat, vo, hbk⟩ := hbk.x; rw [HSP.out, HOF.out] at hbk; have HX2 := Lib.hid (zak HX1.out hbk.below); have HB2 := Lib.hid (zam HB1.out hbk.below); clear hg0 hg1 hg2 HX1; obtain ⟨As, cs, rfl, hcs, hCs⟩ := Kd.zbb hbk.sp; have hofl : of_.length = m.length := HFB.out.mlen; have hvl : vo.length = m.length := by rw [hbk.of_.len, hofl]
 have HBR : Hid (BookR w2 gb A l.length c B m.length d (.slice C ps.length e) vat As cs sp (some ⟨go, 0, none⟩) m.length of_) := Lib.hid ⟨by have h := hbk.bk; rw [hofl]; exact h, hCs, hbk.of_.reads hbk.ob (by omega), hcs⟩
 clear hbk hCs hcs hofl hvl HB1; have hres := HRES.out; unfold setsN at hres; obtain ⟨r0, hr0⟩ : ∃ r0, closeN l.length sp of_ kf (marksS startL (List.replicate sp.length 0, [])) = some r0 := by
  cases h : closeN l.length sp of_ kf (marksS startL (List.replicate sp.length 0, [])) with
  | none => rw [h] at hres; cases hres
  | some r => exact ⟨r, rfl⟩
 rw [hr0] at hres; have HGI : Hid (goI l.length m.length sp of_ kf kg 0 ([r0], [keyB startL]) [] = some res) := Lib.hid hres; have HR0 := Lib.hid hr0; have hsm : FitM sp.length startL := ⟨by decide, fun q hq => by rw [List.mem_singleton.1 hq]; exact ⟨by decide, by show (0 : Int) < _; omega⟩, fun q hq => by rw [List.mem_singleton.1 hq]; exact ⟨by decide, by decide⟩⟩
 have HSM := Lib.hid hsm; have HF0 := Lib.hid (closeN_fit HFB.out kf _ r0 (Pot.marks startL _ (Pot.init sp.length) hsm.spot hsm.looks) hr0); have HBA := Lib.hid (zac (Below.refl w2.heap.size w2) (.cells #[.int .i64 0, .int .u64 1] 166)); have hst := C_lit1 (k := k166) (x := ⟨0, 1⟩) (cs := [.int .i64 0, .int .u64 1]) (k166_mk _ _) (zau w2 (.cells #[.int .i64 0, .int .u64 1] 166)); have HST0 : Hid (k166.C (w2.alloc (.cells #[.int .i64 0, .int .u64 1] 166)) (some ⟨w2.heap.size, 0, none⟩) startL.length startL) := Lib.hid hst; clear hres hr0 hsm hst HRES
 go_wp2_with (go_at_call 65; refine (closed_any gb A l.length c B m.length d (.slice C ps.length e) vat As cs sp (some ⟨go, 0, none⟩) m.length of_ _ (HBR.out.below HBA.out) HFB.out t64 m128 (some ⟨w2.heap.size, 0, none⟩) 1 startL HST0.out HSM.out kf r0 HR0.out).mono ?_; rintro e3 w4 ⟨v0, rfl, hrv, hb4⟩; refine Hid.out ?_)
 refine Lib.hid ?_; have HB3 := Lib.hid (zac HB2.out (.cells #[.int .i64 0, .int .u64 1] 166)); have HBR3 := Lib.hid (HBR.out.below HBA.out); have HX3 := Lib.hid (zad HX2.out (.cells #[.int .i64 0, .int .u64 1] 166)); clear HB2 HBR HX2 HBA; generalize hsl : w2.heap.size = sl at *; generalize w2.alloc (.cells #[.int .i64 0, .int .u64 1] 166) = w3 at *; have HB4 := Lib.hid hb4; obtain ⟨A0, c0, rfl, -, -⟩ := Kd.zbb hrv; have HRV := Lib.hid hrv; clear hrv hb4; have HST4 := Lib.hid (Kd.zav HST0.out (zam HB4.out (zac (zac (Below.refl w4.heap.size w4) (.cells #[.slice A0 r0.length c0] 169)) (.map #[] 0)))); have hsets : kSets.R 169 ((w4.alloc (.cells #[.slice A0 r0.length c0] 169)).alloc (.map #[] 0)) w3.heap.size tru (.slice (some ⟨w4.heap.size, 0, none⟩) 1 1) [r0] := by
  have hr := Kd.zbk (Kd.zbk (Kd.R_mono (Kd.R_bound HRV.out) (fun k hk => hk.2.2.1)) (.cells #[.slice A0 r0.length c0] 169)) (.map #[] 0)
  exact lit_one rfl (zad (zau w4 _) _) HB4.out.size ⟨_, rfl, hr⟩ (fun k hk => Nat.ne_of_lt hk)
 have HSETS := Lib.hid hsets; have hom : OM ((w4.alloc (.cells #[.slice A0 r0.length c0] 169)).alloc (.map #[] 0)) (w4.heap.size + 1) 0 (.map []) := by
  have h := World.ownsMap_made (H := Unit) (w4.alloc (.cells #[.slice A0 r0.length c0] 169)) Tryd.prog 9 (plainElem (H := Unit) Tryd.prog 3); rw [szA] at h; exact h
 have HOM := Lib.hid hom; have HB5 := Lib.hid (zac (zac HB4.out (.cells #[.slice A0 r0.length c0] 169)) (.map #[] 0)); have hbm : w4.heap.size + 1 < ((w4.alloc (.cells #[.slice A0 r0.length c0] 169)).alloc (.map #[] 0)).heap.size := by rw [szA, szA]; omega
 clear hsets hom HRV; have hmm := @run_makeMap Tryd.prog
 go_wp2_with (go_at_call 66; refine (key_any _ (some ⟨sl, 0, none⟩) 1 startL HST4.out sp.length hN HSM.out).mono ?_; rintro e6 w6 ⟨rfl, hb6⟩; refine Hid.out ?_)
 refine Lib.hid ?_; clear hmm; generalize hbmE : w4.heap.size + 1 = bm at *; have hbmge : w3.heap.size ≤ bm := by have := HB4.out.size; omega
 have HOM6 := Lib.hid (HOM.out.below hb6 hbm); have HSETS6 := Lib.hid (Kd.zbf HSETS.out hb6); have HB6 := Lib.hid (zam HB5.out hb6); clear hb6 HOM HSETS HST4 HB5 HB4 hbm; have hks : (strOfNums (keyS startL)).size ≤ maxLen := keyB_max startL (by decide)
 have hkey := WideMaps.keyOf_string_mk (P := Tryd.prog) Tryd.underlying9 hks
 go_wp2_with (((with_reducible refine gate_ins rfl ?_)); refine Hid.out ?_)
 refine Lib.hid ?_; refine insert_own rfl rfl _ _ _ 103 rfl 9 3 (Maps.string_keyed Tryd.underlying9) Tryd.underlying103 (plainElem (H := Unit) Tryd.prog 3) bm 0 _ rfl HOM6.out (by decide) _ _ (kl (keyB startL)) rfl rfl hkey (.lit (.int .i64 0)) [] (plainElem_int Tryd.underlying3 wf0) ?_
 intro w7 hm7 hg7; have HSX : Hid (Sx w3 w7 bm 1 ((.map [] : DU).put (kl (keyB startL)) (.lit (.int .i64 0))) (.slice (some ⟨w4.heap.size, 0, none⟩) 1 1) (.slice none 0 0) (.slice none 0 0) ([r0], [keyB startL]) []) := Lib.hid
  ⟨below_mapped HB6.out hg7 hbmge, hm7, KM.start _, hbmge, rfl, R_mapped HSETS6.out HOM6.out hg7, Kd.R_nil _ _ _ _ _⟩
 have HTB3 := Lib.hid (HTB.out.below HB3.out); clear hm7 hg7 HOM6 HSETS6 HB6 hkey hks HST0 HSM HR0; have HL0 : Hid (∀ q ∈ [r0], q.length = sp.length ∧ ∀ y ∈ q, y < zbi) := Lib.hid (fun q hq => by rw [List.mem_singleton.1 hq]; exact HF0.out)
 clear HF0
 go_wp2_with fail
 go_loopg [7, 9, 10] kg (fun kq v7 v9 v10 w' => ∃ (i : Nat) (D : DU) (A7 : Option Addr) (c7 : Nat) (A9 : Option Addr) (n9 c9 : Nat) (st : SK) (gs : List (List Int)), v10 = .int .i64 (i : Int) ∧ v7 = .slice A7 st.1.length c7 ∧ v9 = .slice A9 n9 c9 ∧ kq ≤ kg ∧ i ≤ 2048 ∧ st.1.length ≤ 2048 ∧ Hid (gs.length = i) ∧ Hid (goI l.length m.length sp of_ kf kq i st gs = some res) ∧ Hid (∀ q ∈ st.1, q.length = sp.length ∧ ∀ y ∈ q, y < zbi) ∧ Hid (Sx w3 w' bm st.2.length D (.slice A7 st.1.length c7) (.slice A9 n9 c9) (.slice none 0 0) st gs))
 case atStart => exact ⟨0, _, _, _, _, _, _, ([r0], [keyB startL]), [], rfl, rfl, rfl, Nat.le_refl _, Nat.zero_le _, (show 1 ≤ 2048 by decide), Lib.hid rfl, HGI, HL0, HSX⟩
 case round =>
  clear HGI HL0 HSX; obtain ⟨i, D, A7, c7, A9, n9, c9, st, gs, rfl, rfl, rfl, hkq, hi, hst, HGL, HGI, HL, HSX⟩ := hrel; obtain ⟨ss, keys⟩ := st; simp only at hi hst HSX HL; obtain ⟨st0, hst0⟩ : ∃ st0, st0 = (ss, keys) := ⟨_, rfl⟩; by_cases hil : i < ss.length
  ·have hib : decide ((i : Int) < (ss.length : Int)) = true := decide_eq_true (by omega)
   have hi0 : (0 : Int) ≤ (i : Int) := by omega
   have hi1 : (i : Int) < (ss.length : Int) := by omega
   have hiw : IntKind.i64.wrap ((i : Int) + 1) = (i : Int) + 1 := IntWalk.i64_in _ (by omega)
   obtain ⟨K, hK⟩ : ∃ K, K = l.length + m.length := ⟨_, rfl⟩; have hK192 : K ≤ 192 := by omega
   have hw0 : IntKind.i64.wrap ((l.length : Int) + (m.length : Int)) = (K : Int) := by rw [IntWalk.i64_in _ (by omega)]; omega
   have hmk : ∀ W : World, (Instr.makeSlice 95 (.int .i64 (K : Int)) (.int .i64 (K : Int))).run Tryd.prog W = .ok (.slice (some ⟨W.heap.size, 0, none⟩) K K) (W.alloc (.cells (Array.replicate K (Value.int .i64 0)) 3)) := fun W => by
    rw [← List.toArray_replicate, ← made_one]; exact run_make_row' 95 3 (.int .i64 0) 8 Tryd.underlying95 info3 rfl .i64 .i64 K (by omega) (by omega) W
   have HKE := Lib.hid hK; have HXW := Lib.hid (zak HX3.out HSX.out.below); have g0 := zaa HXW.out 0; have g1 := zaa HXW.out 1; simp at g0 g1; obtain ⟨si, hsi⟩ : ∃ si, ss[i]? = some si := ⟨_, List.getElem?_eq_getElem hil⟩; have HSI := Lib.hid hsi; obtain ⟨hsl0, hslt⟩ := HL.out si (List.mem_of_getElem? hsi); have HSLT := Lib.hid hslt; obtain ⟨hn7, hc7, hC7⟩ := Kd.zbh HSX.out.sets; obtain ⟨ad7, A5, c5, rfl, s0, -, hC5⟩ := at_Sl (d := kU) (e := 128) hC7 (i := i) hsi; have HC5 := Lib.hid hC5; have HSR := Lib.hid ((HSX.out.row (v1 := .slice (some ⟨wr.heap.size, 0, none⟩) K K) (fun q hq => by simp [Value.ownBlock] at hq; omega)).alloc (.cells (Array.replicate K (Value.int .i64 0)) 3))
   have HRW := Lib.hid (R_zeros wr HSX.out.below.size K (by omega))
   clear hK hsi hslt hn7 hc7 hC7 hC5; have s1 := zan (zac (Below.refl wr.heap.size wr) (.cells (Array.replicate K (Value.int .i64 0)) 3)) s0; have HMVC := Lib.hid (moved_any gb A l.length c B m.length d (.slice C ps.length e) vat As cs sp (some ⟨go, 0, none⟩) m.length of_ (wr.alloc (.cells (Array.replicate K (Value.int .i64 0)) 3)) (HBR3.out.below HSR.out.below) HFB.out t64 m128 A5 c5 si (Kd.C_alloc HC5.out _) hsl0 HSLT.out); have HSL0 := Lib.hid hsl0; clear hsl0
   go_wp2_with (go_at_call 67; refine (HMVC.out).mono ?_; rintro e8 w8 ⟨gm, vm, rfl, hMr, hb8⟩; refine Hid.out ?_)
   refine Lib.hid ?_; have HSX8 := Lib.hid (HSR.out.bel hb8); have HRW8 := Lib.hid (Kd.zbf HRW.out hb8); have HMR := Lib.hid hMr; clear hmk hw0 g0 g1 s0 s1 HMVC HC5 HXW HSR HRW hMr hb8; generalize hrb : wr.heap.size = rb at *; rw [← HKE.out]; generalize hbw : (wr.alloc (.cells (Array.replicate K (Value.int .i64 0)) 3)).heap.size = bw at *; have HGY : Hid (goY l.length sp of_ kf ((movedN K sp si si.length).drop 0) [] (ss, keys) = goY l.length sp of_ kf (movedN K sp si si.length) [] st0) := Lib.hid (by rw [List.drop_zero, hst0])
   have HST0 := Lib.hid hst0; clear hst0; rw [← HKE.out] at HMR
   go_wp2_with fail
   go_loopw [7, 56] (fun v7 v w' => ∃ (y : Nat) (D : DU) (st : SK) (row : List Int) (A7 : Option Addr) (c7 : Nat), v = .int .i64 (y : Int) ∧ v7 = .slice A7 st.1.length c7 ∧ y ≤ K ∧ st.1.length ≤ 2048 ∧ Hid (row.length = y) ∧ Hid (goY l.length sp of_ kf ((movedN K sp si si.length).drop y) row st = goY l.length sp of_ kf (movedN K sp si si.length) [] st0) ∧ Hid (∀ q ∈ st.1, q.length = sp.length ∧ ∀ y ∈ q, y < zbi) ∧ Hid (Sx w3 w' bm st.2.length D (.slice A7 st.1.length c7) (.slice A9 n9 c9) (.slice (some ⟨rb, 0, none⟩) K K) st gs) ∧ Hid (kI.R 3 w' w3.heap.size tru (.slice (some ⟨rb, 0, none⟩) K K) (row ++ List.replicate (K - y) 0)) ∧ Hid (Mr w' bw gm vm (movedN K sp si si.length))) (fun _ v _ => K - (intOf v).toNat)
   case atStart => exact ⟨0, D, (ss, keys), [], _, _, rfl, rfl, Nat.zero_le _, hst, Lib.hid rfl, HGY, HL, HSX8, HRW8, HMR⟩
   case round =>
    clear HGY HL HSX8 HRW8 HMR HSX; obtain ⟨y, D, st, row, A7, c7, rfl, rfl, hy, hst, HRL, HGY, HL, HSX, HRW, HMR⟩ := hrel; obtain ⟨ss, keys⟩ := st; simp only at hst HSX HL HGY; by_cases hyl : y < K
    ·have hml : (movedN K sp si si.length)[y]? = some (marksOf sp si y si.length) := movedN_get hyl; obtain ⟨Aml, cml, hvm⟩ := HMR.out.hdr hml; have h0 : wr.cell? ⟨gm, y, none⟩ = some (.slice Aml (marksOf sp si y si.length).length cml) := (zaa HMR.out.ob y).trans (by rw [List.getElem?_toArray]; exact hvm)
     have HFM := Lib.hid (fitM_moved (sp := sp) (s := si) (y := y) hN HSL0.out HSLT.out HNX.out); have hgy := HGY.out; rw [drop_of_get hml] at hgy; have HGY1 := Lib.hid hgy; obtain ⟨mb, hmb⟩ := Kd.R_typed HRW.out rb rfl; have hrwc := Kd.R_celln 0 HRW.out (y : Int) (Int.natCast_nonneg _) (by omega)
     rw [Int.toNat_natCast] at hrwc; obtain ⟨r1, r1f⟩ := hrwc; have HSX1 := Lib.hid (HSX.out.rowSet rfl HRW.out y (.int .i64 (-1))); have HMR1 := Lib.hid (HMR.out.set hmb (by decide) (by decide) y (.int .i64 (-1)))
     have hrw1 := Kd.R_putn HRW.out (y : Int) (-1); rw [Int.toNat_natCast, set_row hyl HRL.out] at hrw1; have HRW1 := Lib.hid hrw1; have HCM := Lib.hid (HMR1.out.hdrC hml hvm); have HVM := Lib.hid hvm; have HML := Lib.hid hml; have hib2 : decide ((y : Int) < (K : Int)) = true := decide_eq_true (by omega)
     have hy0 : (0 : Int) ≤ (y : Int) := Int.natCast_nonneg _; have hy1 : (y : Int) < (K : Int) := by omega
     have hyw : IntKind.i64.wrap ((y : Int) + 1) = (y : Int) + 1 := IntWalk.i64_in _ (by omega)
     have hy2 : y + 1 ≤ K := hyl; have hme : K - (y + 1) < K - y := by omega
     have HRL1 : Hid ((row ++ [-1]).length = y + 1) := Lib.hid (by rw [List.length_append, HRL.out]; rfl)
     clear hml hgy HGY hrw1 hvm HSX HMR HRW hmb; generalize marksOf sp si y si.length = ml at *; cases ml with
     | nil =>
      have HGY2 : Hid (goY l.length sp of_ kf ((movedN K sp si si.length).drop (y + 1)) (row ++ [-1]) (ss, keys) = goY l.length sp of_ kf (movedN K sp si si.length) [] (st0)) := HGY1; have hle : ((0 : Int) == 0) = true := rfl
      go_wp2_with fail
      go_roundw
      case rel => first | exact ⟨y + 1, D, (ss, keys), _, _, _, by rw [Int.natCast_add]; rfl, rfl, hy2, hst, HRL1, HGY2, HL, HSX1, HRW1, HMR1⟩ | ((repeat apply Exists.intro); exact ⟨⟨y + 1, D, (ss, keys), _, _, _, by rw [Int.natCast_add]; rfl, rfl, hy2, hst, HRL1, HGY2, HL, HSX1, HRW1, HMR1⟩, rfl⟩)
      case measure => exact hme
     | cons mk ms =>
      have HGYc : Hid ((match ixB (keyB (mk :: ms)) keys with
       | some n => goY l.length sp of_ kf ((movedN K sp si si.length).drop (y + 1)) (row ++ [(n : Int)]) (ss, keys)
       | none => if ss.length = 2048 then some none else match closeN l.length sp of_ kf (marksS (mk :: ms) (List.replicate sp.length 0, [])) with
        | none => none
        | some r => goY l.length sp of_ kf ((movedN K sp si si.length).drop (y + 1)) (row ++ [(ss.length : Int)]) (ss ++ [r], keys ++ [keyB (mk :: ms)])) = goY l.length sp of_ kf (movedN K sp si si.length) [] st0) := HGY1
      have hl0 : 0 < (mk :: ms).length := by simp
      clear HGY1; generalize mk :: ms = ml at *; have hle : (((ml.length : Nat) : Int) == 0) = false := by rw [beq_eq_false_iff_ne]; omega
      have hle2 : ((ml.length : Int) = 0) = False := propext ⟨fun h => by omega, False.elim⟩
      go_wp2_with (go_at_call 66; refine (key_any _ Aml cml ml HCM.out sp.length hN HFM.out).mono ?_; rintro e6 wk ⟨rfl, hbk6⟩; refine Hid.out ?_)
      refine Lib.hid ?_; have HSX2 := Lib.hid (HSX1.out.bel hbk6); have HRW2 := Lib.hid (Kd.zbf HRW1.out hbk6); have HMR2 := Lib.hid (HMR1.out.bel hbk6); clear HSX1 HRW1 HMR1 HCM hbk6 h0 r1 r1f hle hle2; have hks := keyB_max ml HFM.out.len; obtain ⟨mb2, hmb2⟩ := Kd.R_typed HRW2.out rb rfl; have hrwc := Kd.R_celln 0 HRW2.out (y : Int) (Int.natCast_nonneg _) hy1; rw [Int.toNat_natCast] at hrwc; obtain ⟨r1, r1f⟩ := hrwc; cases hix : ixB (keyB ml) keys with
      | some n =>
       have hlk := look_yes HSX2.out.map HSX2.out.km (strOfNums (keyS ml)) hks hix; have HGY2 : Hid (goY l.length sp of_ kf ((movedN K sp si si.length).drop (y + 1)) (row ++ [(n : Int)]) (ss, keys) = goY l.length sp of_ kf (movedN K sp si si.length) [] st0) := Lib.hid (by
        have h := HGYc.out; rw [hix] at h; exact h)
       have HSX3 := Lib.hid (HSX2.out.rowSet rfl HRW2.out y (.int .i64 (n : Int))); have HMR3 := Lib.hid (HMR2.out.set hmb2 (by decide) (by decide) y (.int .i64 (n : Int)))
       have hrw3 := Kd.R_putn HRW2.out (y : Int) (n : Int); rw [Int.toNat_natCast, set_row2 HRL.out] at hrw3; have HRW3 := Lib.hid hrw3; have HRL3 : Hid ((row ++ [(n : Int)]).length = y + 1) := Lib.hid (by rw [List.length_append, HRL.out]; rfl)
       clear hix hrw3 HSX2 HMR2 HRW2 HGYc hmb2 hks
       go_wp2_with fail
       go_roundw
       case rel => first | exact ⟨y + 1, D, (ss, keys), _, _, _, by rw [Int.natCast_add]; rfl, rfl, hy2, hst, HRL3, HGY2, HL, HSX3, HRW3, HMR3⟩ | ((repeat apply Exists.intro); exact ⟨⟨y + 1, D, (ss, keys), _, _, _, by rw [Int.natCast_add]; rfl, rfl, hy2, hst, HRL3, HGY2, HL, HSX3, HRW3, HMR3⟩, rfl⟩)
       case measure => exact hme
      | none =>
       obtain ⟨cz, hlk⟩ := look_no HSX2.out.map HSX2.out.km (strOfNums (keyS ml)) hks hix; have HIX := Lib.hid hix; by_cases h2048 : ss.length = 2048
       ·have hln : (((ss.length : Nat) : Int) == 2048) = true := by rw [h2048]; rfl
        have hres : res = none := by
         have h := HGYc.out; rw [hix] at h; simp only [h2048, if_true] at h; have h2 := HGI.out; rw [← HST0.out] at h2; cases gk with
         | zero => simp [goI] at h2
         | succ g =>
          unfold goI at h2; have h3 : st0.1[i]? = some si := by rw [HST0.out]; exact HSI.out
          rw [h3] at h2; simp only at h2; rw [← HKE.out, ← h] at h2
          simpa using h2.symm
        have HRES := Lib.hid hres; have HBE := Lib.hid (below_step' HB3.out HSX2.out.below); clear hix h2048 hres HSX2 HMR2 HRW2 HGYc hmb2 hks
        go_wp2_with fail
        go_ret3; have hr := HRES.out; subst hr; exact ⟨HBE.out, rfl⟩
       ·have hln : (((ss.length : Nat) : Int) == 2048) = false := by rw [beq_eq_false_iff_ne]; omega
        have hst2 : ss.length + 1 ≤ 2048 := by omega
        obtain ⟨r, hr⟩ : ∃ r, closeN l.length sp of_ kf (marksS ml (List.replicate sp.length 0, [])) = some r := by
         cases hc : closeN l.length sp of_ kf (marksS ml (List.replicate sp.length 0, [])) with
         | some r => exact ⟨r, rfl⟩
         | none =>
          exfalso; have h := HGYc.out; rw [hix] at h; simp only [h2048, if_false, hc] at h; have h2 := HGI.out; rw [← HST0.out] at h2; cases gk with
          | zero => simp [goI] at h2
          | succ g =>
           unfold goI at h2; have h3 : st0.1[i]? = some si := by rw [HST0.out]; exact HSI.out
           rw [h3] at h2; simp only at h2; rw [← HKE.out, ← h] at h2; cases h2
        have HGY2 : Hid (goY l.length sp of_ kf ((movedN K sp si si.length).drop (y + 1)) (row ++ [(ss.length : Int)]) (ss ++ [r], keys ++ [keyB ml]) = goY l.length sp of_ kf (movedN K sp si si.length) [] st0) := Lib.hid (by
         have h := HGYc.out; rw [hix] at h; simp only [h2048, if_false, hr] at h; exact h)
        have HR := Lib.hid hr; have HFR := Lib.hid (closeN_fit HFB.out kf _ r (Pot.marks ml _ (Pot.init sp.length) HFM.out.spot HFM.out.looks) hr); have hkl : keys.length = ss.length := HSX2.out.len; have hkey := WideMaps.keyOf_string_mk (P := Tryd.prog) Tryd.underlying9 hks; have HKL := Lib.hid hkl; clear hix hr h2048 HGYc hkl
        go_wp2_with ((at_mapUpdate); refine Hid.out ?_)
        refine Lib.hid ?_; have hwf := len_wf (show ss.length ≤ 2048 by omega)
        have hnm : keys.length < maxLen := by rw [HKL.out]; unfold maxLen; omega
        refine wpList_mapUpdate_own _ rfl _ _ _ 103 rfl 9 3 (Maps.string_keyed Tryd.underlying9) Tryd.underlying103 _ bm _ _ rfl HSX2.out.map hnm _ _ _ rfl rfl hkey _ [] (plainElem_int Tryd.underlying3 hwf) ?_; intro wm hm7 hg7; obtain ⟨hbm7, hs7, hgo7⟩ := HSX2.out.mapped hg7; have HMR7 := Lib.hid (HMR2.out.mapped HSX2.out.map hg7); have HRW7 := Lib.hid (R_mapped HRW2.out HSX2.out.map hg7); have hkm7 := HSX2.out.km.step HIX.out; rw [HKL.out] at hkm7; have HKM7 := Lib.hid hkm7; have HOM7 := Lib.hid hm7; have HB7 := Lib.hid hbm7; have HS7 := Lib.hid hs7; have HGO7 := Lib.hid hgo7; have HCM7 := Lib.hid (HMR7.out.hdrC HML.out HVM.out); have HBR7 := Lib.hid (HBR3.out.below HB7.out); clear hm7 hg7 hbm7 hs7 hgo7 hkm7 HSX2 HMR2 HRW2 hmb2 r1 r1f hlk hkey hks hwf hnm
        go_wp2_with (go_at_call 65; refine (closed_any gb A l.length c B m.length d (.slice C ps.length e) vat As cs sp (some ⟨go, 0, none⟩) m.length of_ _ HBR7.out HFB.out t64 m128 Aml cml ml HCM7.out HFM.out kf r HR.out).mono ?_; rintro e8 wc ⟨vr, rfl, hrv, hbc⟩; refine Hid.out ?_)
        refine Lib.hid ?_; obtain ⟨Ar, cr, rfl, -, -⟩ := Kd.zbb hrv; have hMv : kSets.M wc w3.heap.size (fun q => some q ≠ (Value.slice A7 ss.length c7).ownBlock) r [.slice Ar r.length cr] := ⟨_, rfl, Kd.R_lower (Kd.R_mono (Kd.R_bound hrv) (fun q hq e => by
         have h1 := Kd.R_lt HS7.out q e.symm; have h2 := hq.2.1; omega)) HB7.out.size⟩
        have HMV := Lib.hid hMv; have HB8 := Lib.hid (zam HB7.out hbc); have HS8 := Lib.hid (Kd.zbf HS7.out hbc); have HGO8 := Lib.hid (Kd.zbf HGO7.out hbc); have HRW8 := Lib.hid (Kd.zbf HRW7.out hbc); have HMR8 := Lib.hid (HMR7.out.bel hbc); have HOM8 := Lib.hid (OM.below HOM7.out hbc (by obtain ⟨es, ck, hh⟩ := OM.blk HOM7.out; exact (Array.getElem?_eq_some_iff.1 hh).1))
        have hbo : (ss.length + 1) * 24 ≤ 140737488355328 := by omega
        clear hrv hMv hbc HB7 HS7 HGO7 HRW7 HMR7 HOM7 HCM7 HBR7
        go_wp2_with ((with_reducible refine zay (b := .append) (xs := #[.tmp 85, .tmp 89]) rfl ?_); refine Hid.out ?_)
        refine Lib.hid ?_
        at_builtin
        refine Kd.R_append kSets (w0 := w3) (W := wc) w3.heap.size rfl (.tmp 85) (.tmp 89) 171 169 (.slice none 0 0) 24 rfl Tryd.underlying171 info169 rfl (by decide) (by decide) (.slice A7 ss.length c7) ss r [.slice Ar r.length cr] tru (fun q => some q ≠ (Value.slice A7 ss.length c7).ownBlock) rfl rfl HMV.out (fun _ hk => ⟨trivial, hk⟩) (fun _ _ => trivial) HS8.out HB8.out HB8.out.size hbo ?_
        intro v9 ws ho9 hb9 hg9 hat9; have hS9 : Sx w3 ws bm (keys.length + 1) (D.put (kl (keyB ml)) (.lit (.int .i64 (ss.length : Int)))) v9 (.slice A9 n9 c9) (.slice (some ⟨rb, 0, none⟩) K K) (ss ++ [r], keys ++ [keyB ml]) gs := ⟨hb9, World.ownsMap.kept HOM8.out hg9 (OM.ne_own HOM8.out HS8.out), HKM7.out, hbmge, by rw [List.length_append, List.length_append, HKL.out]; rfl, ho9, Kd.zbn HGO8.out HS8.out (by decide) hg9⟩
        have hRW9 : kI.R 3 ws w3.heap.size tru (.slice (some ⟨rb, 0, none⟩) K K) ((row ++ [-1]) ++ List.replicate (K - (y + 1)) 0) := Kd.zbn HRW8.out HS8.out (by decide) hg9
        have hMR9 := HMR8.out.over HS8.out (by decide) (by decide) hg9
        obtain ⟨A8, c8, rfl, -, -⟩ := Kd.zbb ho9; obtain ⟨mb9, hmb9⟩ := Kd.R_typed hRW9 rb rfl; obtain ⟨q1, q1f⟩ := Kd.R_celln 0 hRW9 (y : Int) (Int.natCast_nonneg _) hy1; rw [Int.toNat_natCast] at q1 q1f; have HSXA := Lib.hid (hS9.rowSet rfl hRW9 y (.int .i64 (ss.length : Int))); have HMRA := Lib.hid (hMR9.set hmb9 (by decide) (by decide) y (.int .i64 (ss.length : Int)))
        have hrwA := Kd.R_putn hRW9 (y : Int) (ss.length : Int); rw [Int.toNat_natCast, set_row2 HRL.out] at hrwA; have HRWA := Lib.hid hrwA; have HRLA : Hid ((row ++ [(ss.length : Int)]).length = y + 1) := Lib.hid (by rw [List.length_append, HRL.out]; rfl)
        have HLA : Hid (∀ q ∈ ss ++ [r], q.length = sp.length ∧ ∀ y ∈ q, y < zbi) := Lib.hid (fun q hq => by
         rcases List.mem_append.1 hq with hq | hq
         ·exact HL.out q hq
         ·rw [List.mem_singleton.1 hq]; exact HFR.out)
        have hstA : (ss ++ [r]).length ≤ 2048 := by rw [List.length_append]; exact hst2
        have HST2 := Lib.hid hstA; clear ho9 hb9 hg9 hat9 hS9 hRW9 hMR9 hmb9 hrwA HS8 HGO8 HRW8 HMR8 HOM8 HB8 HMV hstA; have hln2 : (ss ++ [r]).length = ss.length + 1 := by rw [List.length_append]; rfl
        have HSXB : Hid (Sx w3 (ws.setCell ⟨rb, y, none⟩ (.int .i64 (ss.length : Int))) bm (keys ++ [keyB ml]).length (D.put (kl (keyB ml)) (.lit (.int .i64 (ss.length : Int)))) (.slice A8 (ss ++ [r]).length c8) (.slice A9 n9 c9) (.slice (some ⟨rb, 0, none⟩) K K) (ss ++ [r], keys ++ [keyB ml]) gs) := by
         have hkl2 : (keys ++ [keyB ml]).length = keys.length + 1 := by rw [List.length_append]; rfl
         rw [hkl2]; exact HSXA
        clear HSXA
        go_wp2_with fail
        go_roundw
        case rel => exact ⟨y + 1, D.put (kl (keyB ml)) (.lit (.int .i64 (ss.length : Int))), (ss ++ [r], keys ++ [keyB ml]), row ++ [(ss.length : Int)], A8, c8, by rw [Int.natCast_add]; rfl, by rw [hln2], hy2, HST2.out, HRLA, HGY2, HLA, HSXB, HRWA, HMRA⟩
        case measure => exact hme
    ·have hyK : y = K := by omega
     have hgy := HGY.out; rw [List.drop_eq_nil_of_le (by rw [movedN_len, hyK]; exact Nat.le_refl _)] at hgy
     have HGE : Hid (goY l.length sp of_ kf (movedN K sp si si.length) [] st0 = some (some (row, (ss, keys)))) := Lib.hid hgy.symm; have hrw := HRW.out; rw [show K - y = 0 by omega, List.replicate_zero, List.append_nil] at hrw
     have HRW1 := Lib.hid hrw; have HRLK : Hid (row.length = K) := Lib.hid (HRL.out.trans hyK); have hib2 : decide ((y : Int) < (K : Int)) = false := decide_eq_false (by omega)
     have hMg : kGo.M wr w3.heap.size (fun q => some q ≠ (Value.slice A9 n9 c9).ownBlock) row [.slice (some ⟨rb, 0, none⟩) K K] := ⟨_, rfl, Kd.R_mono (Kd.R_apart' HRW1.out (v := .slice A9 n9 c9) (e' := 95) (fun q hq => Kd.R_typed HSX.out.gos q hq) (by decide)) (fun q hq => hq.2)⟩
     have HMG := Lib.hid hMg; have hbo : (gs.length + 1) * 24 ≤ 140737488355328 := by have := HGL.out; omega
     have HGO1 : Hid (kGo.R 95 wr w3.heap.size tru (.slice A9 n9 c9) gs) := Lib.hid (Kd.R_drop HSX.out.gos); clear hgy HGY hrw HRW HRL HMR hyK hMg
     go_wp2_with ((with_reducible refine zay (b := .append) (xs := #[.tmp 96, .tmp 98]) rfl ?_); refine Hid.out ?_)
     refine Lib.hid ?_
     at_builtin
     refine Kd.R_append kGo (w0 := w3) (W := wr) w3.heap.size rfl (.tmp 96) (.tmp 98) 23 95 (.slice none 0 0) 24 rfl Tryd.underlying23 info95 rfl (by decide) (by decide) (.slice A9 n9 c9) gs row [.slice (some ⟨rb, 0, none⟩) K K] tru (fun q => some q ≠ (Value.slice A9 n9 c9).ownBlock) rfl rfl HMG.out (fun _ hk => ⟨trivial, hk⟩) (fun _ _ => trivial) HGO1.out HSX.out.below HSX.out.below.size hbo ?_
     intro v9 ws ho9 hb9 hg9 hat9; have HSXG := Lib.hid (HSX.out.appG ho9 hg9 hb9); obtain ⟨A10, c10, rfl, -, -⟩ := Kd.zbb ho9; clear ho9 hb9 hg9 hat9 HMG HGO1 HSX; obtain ⟨g, hg, HGI2⟩ : ∃ g, g + 1 = gk ∧ Hid (goI l.length m.length sp of_ kf g (i + 1) (ss, keys) (gs ++ [row]) = some res) := by
      have h2 := HGI.out; rw [← HST0.out] at h2; cases gk with
      | zero => simp [goI] at h2
      | succ g =>
       refine ⟨g, rfl, Lib.hid ?_⟩; unfold goI at h2; have h3 : st0.1[i]? = some si := by rw [HST0.out]; exact HSI.out
       rw [h3] at h2; simp only at h2; rw [← HKE.out, HGE.out] at h2; exact h2
     have hi2 : i + 1 ≤ 2048 := by omega
     have hgq : g < gk := by omega
     have hgk2 : g ≤ kg := by omega
     have hln3 : (gs ++ [row]).length = gs.length + 1 := by rw [List.length_append]; rfl
     have HGL2 : Hid ((gs ++ [row]).length = i + 1) := Lib.hid (by rw [hln3, HGL.out])
     go_wp2_with fail
     go_roundg g
     case measure => exact hgq
     case rel => exact ⟨i + 1, D, A7, c7, A10, (gs ++ [row]).length, c10, (ss, keys), gs ++ [row], by rw [Int.natCast_add]; rfl, rfl, by rw [hln3], hgk2, hi2, hst, HGL2, HGI2, HL, HSXG⟩
  ·have hres : res = some (ss, gs) := by
    have h2 := HGI.out; cases gk with
    | zero => simp [goI] at h2
    | succ g =>
     unfold goI at h2; rw [List.getElem?_eq_none (by simpa using hil)] at h2
     simpa using h2.symm
   have HRES := Lib.hid hres; have hib : decide ((i : Int) < (ss.length : Int)) = false := decide_eq_false (by omega)
   clear hres HGI hst0
   go_wp2_with ((with_reducible refine gate_ (.makeSlice 116 (.tmp 101) (.tmp 101)) rfl ?_); refine Hid.out ?_)
   refine Lib.hid ?_; refine Kd.R_make kLs (w0 := w3) (W := wr) w3.heap.size 119 rfl rfl 116 (.tmp 101) (.tmp 101) rfl (ss.length : Int) rfl rfl Tryd.underlying116 (.slice none 0 0) 24 info119 rfl (by decide) (by decide) [] (ok := tru) (okp := fun _ => False) ⟨_, rfl, Kd.R_nil _ _ _ _ _⟩ (fun _ h => h.elim) trivial (Int.natCast_nonneg _) (by rw [Int.toNat_natCast]; omega) HSX.out.below HSX.out.below.size ?_
   intro v1 w9 ho9 hb9 hg9 hat9; rw [Int.toNat_natCast] at ho9; have HSX9 := Lib.hid (HSX.out.bel (pw_below_grown (Below.refl wr.heap.size wr) none (Nat.le_refl _) hg9 (fun k h => by cases h)))
   obtain ⟨og, hog, _⟩ := hat9; obtain ⟨oc, rfl⟩ := R_at ho9 hog; rw [List.length_replicate]; have HS0 := Lib.hid HSX9.out.sets; have HGO0 : Hid (kGo.R 95 w9 w3.heap.size tru (.slice A9 n9 c9) gs) := Lib.hid (Kd.R_drop HSX9.out.gos); have HBB0 := Lib.hid HSX9.out.below; have HO0 : Hid (kLs.R 119 w9 w3.heap.size tru (.slice (some ⟨og, 0, none⟩) ss.length oc) ((ss.take 0).map (fun s => zbl sp s s.length) ++ List.replicate (ss.length - 0) [])) := Lib.hid (by
    have h := ho9; rw [List.length_replicate] at h; exact h)
   clear ho9 hb9 hg9 hog HSX HSX9
   go_wp2_with fail
   go_loopw [105] (fun v w' => ∃ (q : Nat), v = .int .i64 (q : Int) ∧ q ≤ ss.length ∧ Hid (Below w3.heap.size w3 w') ∧ Hid (kSets.R 169 w' w3.heap.size tru (.slice A7 ss.length c7) ss) ∧ Hid (kGo.R 95 w' w3.heap.size tru (.slice A9 n9 c9) gs) ∧ Hid (kLs.R 119 w' w3.heap.size tru (.slice (some ⟨og, 0, none⟩) ss.length oc) ((ss.take q).map (fun s => zbl sp s s.length) ++ List.replicate (ss.length - q) []))) (fun v _ => ss.length - (intOf v).toNat)
   case atStart => exact ⟨0, rfl, Nat.zero_le _, HBB0, HS0, HGO0, HO0⟩
   case round =>
    clear HBB0 HS0 HGO0 HO0; obtain ⟨q, rfl, hq, HBB, HS, HGO, HO⟩ := hrel; by_cases hql : q < ss.length
    ·obtain ⟨sq, hsq⟩ : ∃ sq, ss[q]? = some sq := ⟨_, List.getElem?_eq_getElem hql⟩; obtain ⟨hsl0, hslt⟩ := HL.out sq (List.mem_of_getElem? hsq); obtain ⟨hn7, hc7, hC7⟩ := Kd.zbh HS.out; obtain ⟨ad7, A5, c5, rfl, s0, -, hC5⟩ := at_Sl (d := kU) (e := 128) hC7 (i := q) hsq; have HSQ := Lib.hid hsq; have hib3 : decide ((q : Int) < (ss.length : Int)) = true := decide_eq_true (by omega)
     have hq0 : (0 : Int) ≤ (q : Int) := Int.natCast_nonneg _; have hq1 : (q : Int) < (ss.length : Int) := by omega
     have hqw : IntKind.i64.wrap ((q : Int) + 1) = (q : Int) + 1 := IntWalk.i64_in _ (by omega)
     have hq2 : q + 1 ≤ ss.length := hql; have hme : ss.length - (q + 1) < ss.length - q := by omega
     have HLC := Lib.hid (list_any gb A l.length c B m.length d (.slice C ps.length e) vat As cs sp (some ⟨go, 0, none⟩) m.length of_ wr (HBR3.out.below HBB.out) hN (HTB3.out.below HBB.out) A5 c5 sq hC5 hsl0 hslt); clear hsq hn7 hc7 hC7 hC5 hsl0 hslt
     go_wp2_with (go_at_call 68; refine (HLC.out).mono ?_; rintro e8 w8 ⟨vr, rfl, hrv, hb8⟩; refine Hid.out ?_)
     refine Lib.hid ?_; obtain ⟨Av, cv, rfl, -, -⟩ := Kd.zbb hrv; have hbg : og < wr.heap.size := by
      obtain ⟨cells, hc⟩ := Kd.R_typed HO.out og rfl; exact (Array.getElem?_eq_some_iff.1 hc).1
     have hMo : kLs.M w8 w3.heap.size (fun k => k ≠ og) (zbl sp sq sq.length) [.slice Av (zbl sp sq sq.length).length cv] := ⟨_, rfl, Kd.R_lower (Kd.R_mono (Kd.R_bound hrv) (fun k hk e => by
      have h2 := hk.2.1; omega)) HBB.out.size⟩
     have HMO := Lib.hid hMo; have HBB1 := Lib.hid (zam HBB.out hb8); have HS1 := Lib.hid (Kd.zbf HS.out hb8); have HGO1 := Lib.hid (Kd.zbf HGO.out hb8); have HO1 := Lib.hid (Kd.zbf HO.out hb8); clear HLC hrv hbg hMo hb8 HBB HS HGO HO s0
     go_wp2_with ((with_reducible refine gate_ (.store 119 (.tmp 115) (.tmp 114)) rfl ?_); refine Hid.out ?_)
     refine Lib.hid ?_; obtain ⟨hnO, -, hCO⟩ := Kd.zbh HO1.out; obtain ⟨ado, co, eo, hco, hKo, hcc⟩ := Kd.C_get hCO [] (q : Int) hq0 (by first | (rw [← hnO]; exact hq1) | omega)
     cases eo; have hset : ((ss.take q).map (fun s => zbl sp s s.length) ++ List.replicate (ss.length - q) []).set q (zbl sp sq sq.length) = (ss.take (q + 1)).map (fun s => zbl sp s s.length) ++ List.replicate (ss.length - (q + 1)) [] := by
      have hlt : ((ss.take q).map (fun s => zbl sp s s.length)).length = q := by rw [List.length_map, List.length_take]; omega
      obtain ⟨hq', hsq'⟩ := List.getElem?_eq_some_iff.1 HSQ.out; rw [List.set_append_right _ _ (by rw [hlt]; exact Nat.le_refl _), hlt, Nat.sub_self, List.take_succ_eq_append_getElem hq', List.map_append, List.append_assoc, hsq']
      congr 1
      rw [show ss.length - q = (ss.length - (q + 1)) + 1 by omega, List.replicate_succ, List.set_cons_zero]
      rfl
     have HSET := Lib.hid hset; refine Kd.R_store kLs (w0 := w3) (W := w8) w3.heap.size rfl rfl 119 (.tmp 115) (.tmp 114) rfl 119 (q : Int) 0 _ (zbl sp sq sq.length) (.slice Av (zbl sp sq sq.length).length cv) [.slice Av (zbl sp sq sq.length).length cv] co tru (fun k => k ≠ og) rfl (by show _ = (q : Int).toNat * 1 + 0; simp) rfl rfl (by kernel_rfl) (fun u hu => by rw [List.mem_singleton.1 hu]; rfl) HO1.out hq0 hq1 (by first | exact hco | exact Kd.K_len hKo | (have hh : co.length = 1 := by (obtain ⟨_, _, rfl, _⟩ := hKo; rfl); exact hh)) (by first | exact hcc | (intro j u hj; have h := hcc j u hj; rw [add_og] at h; exact h)) (by show 0 + 1 ≤ 1; exact Nat.le_refl _) (by
      have hh : co.length = 1 := by first | exact hco | (obtain ⟨_, _, rfl, _⟩ := hKo; rfl)
      have : (co.take 0 ++ [Value.slice Av (zbl sp sq sq.length).length cv] ++ co.drop 1) = [Value.slice Av (zbl sp sq sq.length).length cv] := by
       rw [List.drop_eq_nil_of_le (by omega)]; rfl
      show kLs.M _ _ _ _ (co.take 0 ++ [Value.slice Av (zbl sp sq sq.length).length cv] ++ co.drop 1); rw [this]; exact HMO.out) (fun k hk => ⟨trivial, hk⟩) HBB1.out ?_
     intro ws ho hb hg; rw [Int.toNat_natCast, HSET.out] at ho; have HO2 := Lib.hid ho; have HBB2 := Lib.hid hb; have HS2 : Hid (kSets.R 169 ws w3.heap.size tru (.slice (some ad7) ss.length c7) ss) := Lib.hid (Kd.zbn HS1.out HO1.out (by decide) hg)
     have HGO2 : Hid (kGo.R 95 ws w3.heap.size tru (.slice A9 n9 c9) gs) := Lib.hid (Kd.zbn HGO1.out HO1.out (by decide) hg)
     clear ho hb hg HO1 HBB1 HS1 HGO1 HMO hCO hKo hcc hset hnO hco
     go_wp2_with fail
     go_roundw
     case rel => exact ⟨q + 1, by rw [Int.natCast_add]; rfl, hq2, HBB2, HS2, HGO2, HO2⟩
     case measure => exact hme
    ·have hib3 : decide ((q : Int) < (ss.length : Int)) = false := decide_eq_false (by omega)
     have ho := HO.out; rw [List.take_of_length_le (by omega), show ss.length - q = 0 by omega, List.replicate_zero, List.append_nil] at ho
     obtain ⟨hn1, -, hC1⟩ := Kd.zbh ho; rw [List.length_map] at hC1; obtain ⟨hn2, -, hC2⟩ := Kd.zbh HGO.out; subst hn2; have HC1 := Lib.hid hC1; have HC2 := Lib.hid hC2; have HBE := Lib.hid (below_step' HB3.out HBB.out); clear ho hn1 hC1 hC2 HO HGO HS
     go_wp2_with fail
     go_ret3; have hr := HRES.out; subst hr; exact ⟨HBE.out, _, _, _, _, rfl, HC1.out, HC2.out⟩
abbrev TRows := List (List S93) × List (List Int)
abbrev BR := Sum TRows (Int × Int × Int)
def goB (T : Nat) (ps : List S77) : List (List S178) → List (List Int) → Nat → TRows → BR
 | [], _, _, acc => .inl acc
 | s :: ss, gs, i, acc => match (rowS T ps s (gs.getD i [])).2 with
  | some c => .inr (130, (i : Int), (c : Int))
  | none => goB T ps ss gs (i + 1) (acc.1 ++ [(rowS T ps s (gs.getD i [])).1], acc.2 ++ [(gs.getD i []).drop T])
def buildS (T : Nat) (ps : List S77) (sp : List S230) : Option (List (List Nat) × List (List Int)) → BR
 | none => .inr (120, -1, -1)
 | some (ss, gs) => goB T ps (ss.map fun s => zbl sp s s.length) gs 0 ([], [])
structure SetsOk (T M : Nat) (ps : List S77) (sp : List S230) (ss : List (List Nat)) (gs : List (List Int)) : Prop where
 len : gs.length = ss.length
 most : ss.length ≤ 2048
 fit : ∀ s ∈ ss, FitI T ps (zbl sp s s.length) ∧ (zbl sp s s.length).length ≤ 1099511627776
 row : ∀ g ∈ gs, g.length = T + M
abbrev HD := Option Addr × Nat × Nat
def kH : Kd HD := Kd.scalar (fun h : HD => .slice h.1 h.2.1 h.2.2) (fun _ => rfl)
def hdr (h : HD) : Value := .slice h.1 h.2.1 h.2.2
section
variable {α : Type} {k : Kd α} {t : Nat} {w w1 : World} {base : Nat} {vs : List Value} {xs : List (List α)}
theorem Rows.snoc (hE : k.E = []) (h : Rows k t w base vs xs) {v : Value} {x : List α} {ok : Nat → Prop} (hR : k.R t w base ok v x) (hn : ∀ (j : Nat) (u : Value) (q : Nat), vs[j]? = some u → u.ownBlock = some q → v.ownBlock ≠ some q) : Rows k t w base (vs ++ [v]) (xs ++ [x]) := by
 have hl := h.len; refine ⟨by simp [hl], fun j u y hu hy => ?_, fun i j u u' hij hu hu' q hq => ?_⟩
 ·rcases Nat.lt_trichotomy j vs.length with hj | hj | hj
  ·rw [List.getElem?_append_left hj] at hu; rw [List.getElem?_append_left (by omega)] at hy
   exact h.row j u y hu hy
  ·rw [List.getElem?_append_right (by omega), show j - vs.length = 0 by omega] at hu
   rw [List.getElem?_append_right (by omega), show j - xs.length = 0 by omega] at hy
   cases hu; cases hy; exact Kd.R_tight hE hR
  ·rw [List.getElem?_eq_none (by simp; omega)] at hu
   cases hu
 ·have key : ∀ (a : Nat) (z : Value), (vs ++ [v])[a]? = some z → (a < vs.length ∧ vs[a]? = some z) ∨ (a = vs.length ∧ z = v) := fun a z hz => by
   rcases Nat.lt_trichotomy a vs.length with ha | ha | ha
   ·rw [List.getElem?_append_left ha] at hz; exact .inl ⟨ha, hz⟩
   ·rw [List.getElem?_append_right (by omega), show a - vs.length = 0 by omega] at hz
    cases hz; exact .inr ⟨ha, rfl⟩
   ·rw [List.getElem?_eq_none (by simp; omega)] at hz
    cases hz
  rcases key i u hu with ⟨hi, hu2⟩ | ⟨hi, hu2⟩
  ·rcases key j u' hu' with ⟨hj, hu3⟩ | ⟨hj, hu3⟩
   ·exact h.apart i j u u' hij hu2 hu3 q hq
   ·rw [hu3]; exact hn i u q hu2 hq
  ·rcases key j u' hu' with ⟨hj, hu3⟩ | ⟨hj, hu3⟩
   ·intro he; rw [hu2] at hq; exact hn j u' q hu3 he hq
   ·omega
theorem Rows.lower {base' : Nat} (h : Rows k t w base vs xs) (hb : base' ≤ base) : Rows k t w base' vs xs := ⟨h.len, fun j v x hv hx => Kd.R_lower (h.row j v x hv hx) hb, h.apart⟩
theorem Rows.empty : Rows k t w base [] [] := ⟨rfl, fun j v x hv => by simp at hv, fun i j u v _ hu => by simp at hu⟩
theorem Rows.readsH {A : Option Addr} {n : Nat} {hs : List HD} (h : Rows k t w base (hs.map hdr) xs) (hA : kH.C w A n hs) : (Kd.slice t k).C w A n xs := by
 obtain ⟨h1, h2, h3⟩ := hA; have hl := h.len; rw [List.length_map] at hl; refine ⟨by omega, h2, fun hp => ?_⟩
 obtain ⟨ad, e, hh⟩ := h3 hp; refine ⟨ad, e, fun j p hj => ?_⟩
 obtain ⟨hjl, _⟩ := List.getElem?_eq_some_iff.1 hj; obtain ⟨x, hx⟩ : ∃ x, hs[j]? = some x := ⟨_, List.getElem?_eq_getElem (by omega)⟩
 obtain ⟨cs, hcl, hcs, hcc⟩ := hh j x hx; have hv : (hs.map hdr)[j]? = some (hdr x) := by rw [List.getElem?_map, hx]; rfl
 obtain ⟨A2, c2, e2, hc2, hC2⟩ := Kd.zbb (h.row j _ p hv hj); have e3 : cs = [hdr x] := hcs; refine ⟨cs, by rw [e3]; rfl, ?_, hcc⟩
 rw [e3, e2]; exact ⟨A2, c2, rfl, hc2, hC2⟩
end
structure Tx (w3 W : World) (tb : Nat) (vA vG : Value) (hA hG : List HD) (uA uG : List Value) (rows : List (List S93)) (gos : List (List Int)) : Prop where
 below : Below w3.heap.size w3 W
 tbk : W.heap[tb]? = some (.cells #[vA, vG] 25 (0, 0))
 ge : w3.heap.size ≤ tb
 A : kH.R 90 W w3.heap.size tru vA hA
 ra : Rows k93 93 W w3.heap.size uA rows
 G : kH.R 95 W w3.heap.size tru vG hG
 rg : Rows kInt 3 W w3.heap.size uG gos
theorem E93 : k93.E = [] := rfl
theorem EInt : kInt.E = [] := rfl
section
variable {w3 W W1 : World} {tb : Nat} {vA vG : Value} {hA hG : List HD} {uA uG : List Value} {rows : List (List S93)} {gos : List (List Int)}
theorem Tx.bel (h : Tx w3 W tb vA vG hA hG uA uG rows gos) (hb : Below W.heap.size W W1) : Tx w3 W1 tb vA vG hA hG uA uG rows gos :=
 ⟨zam h.below hb, zak h.tbk hb, h.ge, Kd.zbf h.A hb, h.ra.below hb, Kd.zbf h.G hb, h.rg.below hb⟩
theorem Tx.alloc (h : Tx w3 W tb vA vG hA hG uA uG rows gos) (o : Obj) : Tx w3 (W.alloc o) tb vA vG hA hG uA uG rows gos := h.bel (zac (Below.refl _ _) o)
theorem Tx.drewN (h : Tx w3 W tb vA vG hA hG uA uG rows gos) (n : Nat) : Tx w3 (W.drewN n) tb vA vG hA hG uA uG rows gos := h.bel (zab (Below.refl _ _) n)
theorem Tx.drew (h : Tx w3 W tb vA vG hA hG uA uG rows gos) : Tx w3 W.drew tb vA vG hA hG uA uG rows gos := h.bel (zaw (Below.refl _ _))
theorem Tx.newA (h : Tx w3 W tb vA vG hA hG uA uG rows gos) {v : Value} {row : List S93} {b : Nat} (hR : k93.R 93 W b tru v row) (hb : w3.heap.size ≤ b) (hn : ∀ (j : Nat) (u : Value) (q : Nat), uA[j]? = some u → u.ownBlock = some q → v.ownBlock ≠ some q) : Tx w3 W tb vA vG hA hG (uA ++ [v]) uG (rows ++ [row]) gos :=
 ⟨h.below, h.tbk, h.ge, h.A, h.ra.snoc E93 (Kd.R_lower hR hb) hn, h.G, h.rg⟩
theorem Tx.newG (h : Tx w3 W tb vA vG hA hG uA uG rows gos) {v : Value} {row : List Int} {b : Nat} (hR : kInt.R 3 W b tru v row) (hb : w3.heap.size ≤ b) (hn : ∀ (j : Nat) (u : Value) (q : Nat), uG[j]? = some u → u.ownBlock = some q → v.ownBlock ≠ some q) : Tx w3 W tb vA vG hA hG uA (uG ++ [v]) rows (gos ++ [row]) :=
 ⟨h.below, h.tbk, h.ge, h.A, h.ra, h.G, h.rg.snoc EInt (Kd.R_lower hR hb) hn⟩
theorem Tx.appA (h : Tx w3 W tb vA vG hA hG uA uG rows gos) {v1 : Value} {hA1 : List HD} (hR : kH.R 90 W1 w3.heap.size tru v1 hA1) (hg : W.grownBy W1 vA.ownBlock) (hb : Below w3.heap.size w3 W1) : W1.heap[tb]? = some (.cells #[vA, vG] 25 (0, 0)) ∧ Tx w3 (W1.setCell ⟨tb, 0, none⟩ v1) tb v1 vG hA1 hG uA uG rows gos := by
 have h1 := zas h.tbk hg (Kd.R_ne h.A h.tbk (by decide))
 have h2 := h.ra.over h.A (by decide) hg
 have h3 := Kd.zbn h.G h.A (by decide) hg
 have h4 := h.rg.over h.A (by decide) hg
 exact ⟨h1, zaf hb h.ge, zat h1 0 v1 rfl, h.ge, Kd.zbp hR h1 (by decide) 0 v1, h2.set h1 (by decide) 0 v1, Kd.zbp h3 h1 (by decide) 0 v1, h4.set h1 (by decide) 0 v1⟩
theorem Tx.appG (h : Tx w3 W tb vA vG hA hG uA uG rows gos) {v1 : Value} {hG1 : List HD} (hR : kH.R 95 W1 w3.heap.size tru v1 hG1) (hg : W.grownBy W1 vG.ownBlock) (hb : Below w3.heap.size w3 W1) : W1.heap[tb]? = some (.cells #[vA, vG] 25 (0, 0)) ∧ Tx w3 (W1.setCell ⟨tb, 1, none⟩ v1) tb vA v1 hA hG1 uA uG rows gos := by
 have h1 := zas h.tbk hg (Kd.R_ne h.G h.tbk (by decide))
 have h2 := h.ra.over h.G (by decide) hg
 have h3 := Kd.zbn h.A h.G (by decide) hg
 have h4 := h.rg.over h.G (by decide) hg
 exact ⟨h1, zaf hb h.ge, zat h1 1 v1 rfl, h.ge, Kd.zbp h3 h1 (by decide) 1 v1, h2.set h1 (by decide) 1 v1, Kd.zbp hR h1 (by decide) 1 v1, h4.set h1 (by decide) 1 v1⟩
end
structure TbOwn (W : World) (base : Nat) (vA vG : Value) (rows : List (List S93)) (gos : List (List Int)) : Prop where
 own : ∃ hA hG, kH.R 90 W base tru vA hA ∧ Rows k93 93 W base (hA.map hdr) rows ∧ kH.R 95 W base tru vG hG ∧ Rows kInt 3 W base (hG.map hdr) gos
def RetBuild (w : World) (res : BR) (e : Ending) (w' : World) : Prop := Below w.heap.size w w' ∧ match res with
 | .inl (rows, gos) => ∃ A c B d, e = .returned (.tuple #[.agg #[.slice A rows.length c, .slice B gos.length d], .int .i64 0, .int .i64 0, .int .i64 0]) ∧ TbOwn w' w.heap.size (.slice A rows.length c) (.slice B gos.length d) rows gos
 | .inr (code, s, t) => e = .returned (.tuple #[.agg #[.slice none 0 0, .slice none 0 0], .int .i64 code, .int .i64 s, .int .i64 t])
theorem results_cttt {P : Program} {fn : Func} {p u v x : Tmp} {ty : TypeId} (h : fn.results = #[.cell p ty, .tmp u, .tmp v, .tmp x]) (tmps : Array Value) (w : World) (g : Nat) (t : TypeId) (cs : Array Value) (fr : Nat × Nat) (d : TypeDesc)
  (hp : tmps.getD p undef = .pointer (some ⟨g, 0, none⟩)) (hg : w.heap[g]? = some (.cells cs t fr))
  (hu : P.underlying ty = some d) (hd : (match d with | .struct _ | .array _ _ => true | _ => false) = true) (hi : (P.info? ty).map (·.size) = some cs.size) :
  (results fn tmps).run P w = .ok (.tuple #[.agg cs, tmps.getD u undef, tmps.getD v undef, tmps.getD x undef]) w := by
 have hp' : tmps[p]?.getD undef = .pointer (some ⟨g, 0, none⟩) := by simpa using hp
 simp [results, h, hp', asAddr, run_loadVar_row w g t ty cs fr d hg hu hd hi]
end Bld
end Go.Proofs.YtcijanmckhlpiaaDoor
namespace Go.Proofs.YtcijanmckhlpiaaDoor
open Go.RowKit Go.Proofs.YtcijanmckhlpiaaDoorW.PrintWords Go.Proofs.YtcijanmckhlpiaaDoor.PTableBuilds
namespace Bld
def Lt (T : Nat) (s : List Nat) : Prop := ∀ x ∈ s, x < 2 ^ T
theorem Lt.fst {T : Nat} {s : List Nat} (h : Lt T s) (k : Nat) : Bld.fst s k < 2 ^ T := by
 unfold Bld.fst; rw [List.getD_eq_getElem?_getD]; rcases e : s[k]? with _ | x
 ·exact Nat.two_pow_pos T
 ·exact h x (List.mem_of_getElem? e)
theorem Lt.set {T : Nat} {s : List Nat} (h : Lt T s) (k : Nat) {x : Nat} (hx : x < 2 ^ T) : Lt T (s.set k x) := fun y hy => by
 rcases List.mem_or_eq_of_mem_set hy with hy | hy
 ·exact h y hy
 ·rw [hy]; exact hx
theorem Lt.of_ {T : Nat} {F : List Nat} {V : List Bool} (h : Lt T F) : ∀ (l : List S110) (out : Nat), out < 2 ^ T → (ofS F V out l).1 < 2 ^ T
 | [], out, ho => ho
 | r :: l, out, ho => by
  unfold ofS
  split
  ·exact Lt.of_ h l _ (Nat.or_lt_two_pow ho (h.fst _))
  ·exact Nat.or_lt_two_pow ho (h.fst _)
theorem Lt.lk {T : Nat} {F : List Nat} {V : List Bool} (h : Lt T F) : ∀ (l : List S110), (Bld.lk F V l).1 < 2 ^ T
 | [] => Nat.two_pow_pos T
 | r :: l => by
  unfold Bld.lk; simp only
  split
  ·exact Nat.or_lt_two_pow (h.fst _) (Lt.lk h l)
  ·exact h.fst _
theorem Lt.init (T n : Nat) (hn : n ≤ T) : Lt T (initF n) := fun x hx => by
 simp only [initF, List.mem_map, List.mem_range] at hx; obtain ⟨j, hj, rfl⟩ := hx
 split
 ·exact Nat.pow_lt_pow_right (by decide) (by omega)
 ·exact Nat.two_pow_pos T
def roomV (V : List Bool) : Nat := V.countP (fun b => !b)
def mu (s : FV) : Nat := room s.1 + roomV s.2
theorem roomV_set : ∀ (V : List Bool) (k : Nat) (b : Bool), roomV (V.set k (van V k || b)) ≤ roomV V ∧ (V.set k (van V k || b) ≠ V → roomV (V.set k (van V k || b)) < roomV V)
 | [], k, b => ⟨Nat.le_refl _, fun h => absurd rfl h⟩
 | x :: V, 0, b => by
  simp only [List.set_cons_zero, van, List.getD_cons_zero, roomV, List.countP_cons]; cases x <;> cases b <;> simp
 | x :: V, k + 1, b => by
  have ih := roomV_set V k b; simp only [List.set_cons_succ, van, List.getD_cons_succ, roomV, List.countP_cons] at ih ⊢; refine ⟨by omega, fun h => ?_⟩
  have h2 := ih.2 (fun e => h (by rw [e]))
  omega
theorem room_or {F : List Nat} (hF : ∀ x ∈ F, x < zbi) {x : Nat} (hx : x < zbi) (k : Nat) : room (F.set k (fst F k ||| x)) ≤ room F ∧ (F.set k (fst F k ||| x) ≠ F → room (F.set k (fst F k ||| x)) < room F) := by
 by_cases hk : k < F.length
 ·have h1 := room_set F k (fst F k ||| x) hk; have h2 := nbits_le (fst F k ||| x); by_cases he : fst F k ||| x = fst F k
  ·rw [he] at h1 ⊢; refine ⟨by omega, fun h => absurd ?_ h⟩
   unfold fst; rw [List.getD_eq_getElem?_getD, List.getElem?_eq_getElem hk]; exact List.set_getElem_self hk
  ·have h3 := nbits_lt (or_lt (fst_lt hF k) hx) he; exact ⟨by omega, fun _ => by omega⟩
 ·rw [List.set_eq_of_length_le (by omega)]
  exact ⟨Nat.le_refl _, fun h => absurd rfl h⟩
theorem stepP_mu {T : Nat} {s : FV} (h : Fit s) (p : S77) : mu (stepP T s p) ≤ mu s ∧ (stepP T s p ≠ s → mu (stepP T s p) < mu s) := by
 unfold stepP
 split
 ·exact ⟨Nat.le_refl _, fun h => absurd rfl h⟩
 ·have a := room_or h.lt (ofS_lt (V := s.2) h.lt p.f1 0 (by decide)) (T + p.f0.toNat)
  have b := roomV_set s.2 (T + p.f0.toNat) (ofS s.1 s.2 0 p.f1).2; unfold mu; refine ⟨Nat.add_le_add a.1 b.1, fun hne => ?_⟩
  simp only; by_cases h1 : s.1.set (T + p.f0.toNat) (fst s.1 (T + p.f0.toNat) ||| (ofS s.1 s.2 0 p.f1).1) = s.1
  ·by_cases h2 : s.2.set (T + p.f0.toNat) (van s.2 (T + p.f0.toNat) || (ofS s.1 s.2 0 p.f1).2) = s.2
   ·exact absurd (Prod.ext h1 h2) hne
   ·have := b.2 h2; omega
  ·have := a.2 h1; omega
theorem passP_fit {T : Nat} : ∀ (ps : List S77) {s : FV}, Fit s → Fit (passP T ps s)
 | [], s, h => h
 | p :: ps, s, h => passP_fit ps (h.step p)
theorem passP_mu {T : Nat} : ∀ (ps : List S77) {s : FV}, Fit s → mu (passP T ps s) ≤ mu s ∧ (passP T ps s ≠ s → mu (passP T ps s) < mu s)
 | [], s, h => ⟨Nat.le_refl _, fun e => absurd rfl e⟩
 | p :: ps, s, h => by
  have a := stepP_mu (T := T) h p; have b := passP_mu (T := T) ps (h.step (T := T) p); have e : passP T (p :: ps) s = passP T ps (stepP T s p) := rfl; rw [e]; refine ⟨Nat.le_trans b.1 a.1, fun hne => ?_⟩
  by_cases h1 : stepP T s p = s
  ·rw [h1] at b hne ⊢; exact b.2 hne
  ·exact Nat.lt_of_le_of_lt b.1 (a.2 h1)
theorem solveN_some {T : Nat} {ps : List S77} : ∀ (k : Nat) (s : FV), Fit s → mu s < k → ∃ r, solveN T ps k s = some r ∧ Fit r
 | 0, s, _, h => absurd h (Nat.not_lt_zero _)
 | k + 1, s, hf, h => by
  unfold solveN; by_cases he : passP T ps s = s
  ·rw [if_pos he]; exact ⟨s, rfl, hf⟩
  ·rw [if_neg he]; exact solveN_some k _ (passP_fit ps hf) (by have := (passP_mu ps hf).2 he; omega)
theorem stepP_lt {T n : Nat} {s : FV} (h : Lt n s.1) (p : S77) : Lt n (stepP T s p).1 := by
 unfold stepP
 split
 ·exact h
 ·exact h.set _ (Nat.or_lt_two_pow (h.fst _) (h.of_ _ _ (Nat.two_pow_pos n)))
theorem passP_lt {T n : Nat} : ∀ (ps : List S77) {s : FV}, Lt n s.1 → Lt n (passP T ps s).1
 | [], s, h => h
 | p :: ps, s, h => passP_lt ps (stepP_lt h p)
theorem solveN_lt {T n : Nat} {ps : List S77} : ∀ (k : Nat) (s r : FV), Lt n s.1 → solveN T ps k s = some r → Lt n r.1
 | 0, s, r, _, h => by simp [solveN] at h
 | k + 1, s, r, hs, h => by
  unfold solveN at h
  split at h
  ·cases h; exact hs
  ·exact solveN_lt k _ r (passP_lt ps hs) h
theorem solve_exists (T : Nat) (ps : List S77) (hT : T ≤ 64) : ∃ k s, solveN T ps k (initF T, noV) = some s ∧ Fit s ∧ Lt T s.1 := by
 obtain ⟨s, h1, h2⟩ := solveN_some (T := T) (ps := ps) (mu (initF T, noV) + 1) _ (Fit.init T hT) (Nat.lt_succ_self _); exact ⟨_, s, h1, h2, solveN_lt _ _ _ (Lt.init T T (Nat.le_refl _)) h1⟩
structure Spot (T M n : Nat) (x : S230) : Prop where
 prod : 0 ≤ x.f0 ∧ x.f0 < n
 sym : -1 ≤ x.f2 ∧ x.f2 < (T : Int) + M
 rest : 0 ≤ x.f3 ∧ x.f3 < ((2 ^ T : Nat) : Int)
theorem symAt_bound {T M : Nat} {l : List S110} (h : ∀ r ∈ l, 0 ≤ r.f0 ∧ r.f0 < (T : Int) + M) (hT : 1 ≤ T) (j : Nat) : -1 ≤ symAt l j ∧ symAt l j < (T : Int) + M := by
 unfold symAt
 split
 ·rename_i r hr
  have := h r (List.mem_of_getElem? hr); omega
 ·omega
theorem spotsS_ok {T M n : Nat} {F : List Nat} {V : List Bool} (hF : Lt T F) (hT : 1 ≤ T) : ∀ (ps : List S77) (i : Nat), i + ps.length ≤ n → (∀ p ∈ ps, ∀ r ∈ p.f1, 0 ≤ r.f0 ∧ r.f0 < (T : Int) + M) → ∀ x ∈ zbc F V i ps, Spot T M n x
 | [], i, _, _, x, hx => by cases hx
 | p :: ps, i, hi, hr, x, hx => by
  unfold zbc at hx; rw [List.length_cons] at hi; rcases List.mem_append.1 hx with hx | hx
  ·unfold rowAt at hx; obtain ⟨d, -, rfl⟩ := List.mem_map.1 hx; have hs := symAt_bound (M := M) (hr p (by simp)) hT d
   have hl := hF.lk (V := V) (p.f1.drop (d + 1)); rw [if_pos (Nat.zero_le _)]; unfold spotF; exact ⟨⟨Int.natCast_nonneg _, by show (i : Int) < n; omega⟩, hs, ⟨Int.natCast_nonneg _, by show (((Bld.lk F V (p.f1.drop (d + 1))).1 : Nat) : Int) < _; exact_mod_cast hl⟩⟩
  ·exact spotsS_ok hF hT ps (i + 1) (by omega) (fun q hq => hr q (by simp [hq])) x hx
theorem ofRow_lt (x : Nat) : ∀ (ps : List S77) (n : Nat), ∀ y ∈ ofRow x n ps, y < n + dots ps
 | [], n, y, hy => by cases hy
 | p :: ps, n, y, hy => by
  rw [dots_cons]; unfold ofRow at hy
  split at hy
  ·rcases List.mem_cons.1 hy with rfl | hy
   ·omega
   ·have := ofRow_lt x ps _ y hy; omega
  ·have := ofRow_lt x ps _ y hy; omega
theorem fitB_of {T M : Nat} {ps : List S77} (hf : Fair T M ps) {s : FV} (hF : Lt T s.1) : FitB T M (zbc s.1 s.2 0 ps) (zbo M ps) := by
 have hsp := spotsS_ok (M := M) (V := s.2) hF hf.t1 ps 0 (n := ps.length) (by omega) hf.rhs
 have h64 : (2 : Nat) ^ T ≤ 18446744073709551616 := Nat.le_trans (Nat.pow_le_pow_right (by decide) hf.t64) (by decide)
 have hlen := spotsS_len s.1 s.2 ps 0; refine ⟨by rw [hlen]; exact hf.tot, fun x hx => ?_, fun x hx => (hsp x hx).sym, ofAll_len M ps, fun l hl => ?_⟩
 ·have := (hsp x hx).rest; exact ⟨this.1, Int.lt_of_lt_of_le this.2 (Int.ofNat_le.2 h64)⟩
 ·unfold zbo at hl; obtain ⟨x, -, rfl⟩ := List.mem_map.1 hl; refine ⟨Nat.le_trans (ofRow_len x ps 0) (Nat.le_trans (dots_len ps) hf.tot), fun n hn => ?_⟩
  have := ofRow_lt x ps 0 n hn; rw [hlen]; omega
theorem spots_last {F : List Nat} {V : List Bool} {ps : List S77} (hp : 0 < ps.length) (i : Nat) (hi : i + 1 = (zbc F V 0 ps).length) : (rdSp (zbc F V 0 ps) i).f2 < 0 := by
 rcases List.eq_nil_or_concat ps with rfl | ⟨qs, q, rfl⟩
 ·simp at hp
 ·rw [List.concat_eq_append] at hi ⊢; rw [spotsS_snoc] at hi ⊢; rw [List.length_append, rowAt_len] at hi; have hg : (zbc F V 0 qs ++ rowAt F V (0 + qs.length) q.f1 0)[i]? = some (spotF F V (0 + qs.length) q.f1 q.f1.length) := by
   rw [List.getElem?_append_right (by omega), show i - (zbc F V 0 qs).length = q.f1.length by omega, rowAt_get (Nat.le_refl _), if_pos (Nat.zero_le _)]
  unfold rdSp; rw [List.getD_eq_getElem?_getD, hg]; show symAt q.f1 q.f1.length < 0; unfold symAt; rw [List.getElem?_eq_none (Nat.le_refl _)]; decide
theorem puts_pot {N : Nat} : ∀ (l : List Nat) (x : Nat) (st : List Nat × List Nat), Pot N st → x < zbi → (∀ n ∈ l, n < N) → (putsS l x st).2.length + room (putsS l x st).1 ≤ st.2.length + room st.1
 | [], x, st, _, _, _ => Nat.le_refl _
 | n :: l, x, st, h, hx, hl => by
  have a := putS_pot (todo := st.2) (n := n) (x := x) (by rw [h.len]; exact hl n (by simp)) h.lt hx
  have b := puts_pot l x (putS st.1 st.2 n x) (h.put (hl n (by simp)) hx) hx (fun m hm => hl m (by simp [hm]))
  exact Nat.le_trans b a
theorem closeN_some {T M : Nat} {sp : List S230} {of_ : List (List Nat)} (hf : FitB T M sp of_) : ∀ (k : Nat) (st : List Nat × List Nat), Pot sp.length st → st.2.length + room st.1 < k → ∃ r, closeN T sp of_ k st = some r
 | 0, st, _, h => absurd h (Nat.not_lt_zero _)
 | k + 1, (s, todo), hp, h => by
  rcases List.eq_nil_or_concat todo with rfl | ⟨td, n, rfl⟩
  ·exact ⟨s, by simp [closeN]⟩
  ·rw [List.concat_eq_append] at hp h ⊢; have hpt : Pot sp.length (s, td) := by
    have h2 := hp.pop
    rwa [List.dropLast_concat] at h2
   have hn : n < sp.length := hp.td n (by simp)
   simp only [List.length_append, List.length_singleton] at h; simp only [closeN, List.getLast?_append, List.getLast?_singleton, Option.some_or, List.dropLast_concat]
   split
   ·exact closeN_some hf k _ hpt (by simp only; omega)
   ·rename_i hs
    have hsy := hf.sym _ (rdSp_mem hn); have hst := (hf.starts _ (rdOfs_mem (of_ := of_) (n := ((rdSp sp n).f2 - T).toNat) (by have := hf.mlen; omega))).2
    have hq := Pot.puts (hf.looks_lt hpt.lt hn) _ _ hpt hst; have hm := puts_pot (rdOfs of_ ((rdSp sp n).f2 - T).toNat) (looksS sp s n) (s, td) hpt (hf.looks_lt hpt.lt hn) hst; exact closeN_some hf k _ hq (by simp only at hm; omega)
theorem Lt.put {T : Nat} {s todo : List Nat} (h : Lt T s) {n x : Nat} (hx : x < 2 ^ T) : Lt T (putS s todo n x).1 := by
 unfold putS
 split
 ·exact h
 ·exact h.set _ (Nat.or_lt_two_pow (h.fst _) hx)
theorem Lt.puts {T : Nat} {x : Nat} (hx : x < 2 ^ T) : ∀ (l : List Nat) (st : List Nat × List Nat), Lt T st.1 → Lt T (putsS l x st).1
 | [], st, h => h
 | n :: l, st, h => Lt.puts hx l (putS st.1 st.2 n x) (h.put hx)
theorem Lt.marks {T : Nat} : ∀ (l : List S166) (st : List Nat × List Nat), Lt T st.1 → (∀ m ∈ l, m.f1.toNat < 2 ^ T) → Lt T (marksS l st).1
 | [], st, h, _ => h
 | m :: l, st, h, hl => Lt.marks l (putS st.1 st.2 m.f0.toNat m.f1.toNat) (h.put (hl m (by simp))) (fun x hx => hl x (by simp [hx]))
theorem closeN_lt {T n : Nat} {sp : List S230} {of_ : List (List Nat)} (hsp : ∀ x ∈ sp, x.f3.toNat < 2 ^ n) : ∀ (k : Nat) (st : List Nat × List Nat) (r : List Nat), Lt n st.1 → closeN T sp of_ k st = some r → Lt n r
 | 0, st, r, _, h => by simp [closeN] at h
 | k + 1, (s, todo), r, hs, h => by
  have hlook : ∀ q, looksS sp s q < 2 ^ n := fun q => by
   have hr : (rdSp sp q).f3.toNat < 2 ^ n := by
    by_cases hq : q < sp.length
    ·exact hsp _ (rdSp_mem hq)
    ·unfold rdSp; rw [List.getD_eq_getElem?_getD, List.getElem?_eq_none (by omega)]
     exact Nat.two_pow_pos n
   unfold looksS
   split
   ·exact Nat.or_lt_two_pow hr (hs.fst _)
   ·exact hr
  rcases List.eq_nil_or_concat todo with rfl | ⟨td, q, rfl⟩
  ·have e : s = r := by simpa [closeN] using h
   subst e; exact hs
  ·rw [List.concat_eq_append] at h; simp only [closeN, List.getLast?_append, List.getLast?_singleton, Option.some_or, List.dropLast_concat] at h
   split at h
   ·exact closeN_lt hsp k (s, td) r hs h
   ·exact closeN_lt hsp k _ r (Lt.puts (hlook q) _ (s, td) hs) h
structure SetOk (T N : Nat) (s : List Nat) : Prop where
 len : s.length = N
 lt : Lt T s
theorem marks_ok {T N : Nat} {sp : List S230} {s : List Nat} (hN : sp.length = N) (hl : s.length = N) (hs : Lt T s) (hnx : ∀ i, i + 1 = sp.length → (rdSp sp i).f2 < 0) (y : Nat) : ∀ m ∈ marksOf sp s y s.length, 0 ≤ m.f0 ∧ m.f0 < (N : Int) ∧ 0 ≤ m.f1 ∧ m.f1.toNat < 2 ^ T := by
 intro m hm; unfold marksOf at hm; rw [List.mem_filterMap] at hm; obtain ⟨i, hi, hm⟩ := hm; rw [List.mem_range] at hi
 split at hm
 ·rename_i h
  cases hm; have h1 : i + 1 ≠ sp.length := fun e => by have := hnx i e; omega
  have h2 := hs.fst i; refine ⟨Int.natCast_nonneg _, ?_, Int.natCast_nonneg _, ?_⟩
  ·show ((i + 1 : Nat) : Int) < N; omega
  ·show ((Bld.fst s i : Nat) : Int).toNat < 2 ^ T; rw [Int.toNat_natCast]; exact h2
 ·cases hm
theorem pow64 {T : Nat} (h : T ≤ 64) : 2 ^ T ≤ zbi := Nat.le_trans (Nat.pow_le_pow_right (by decide) h) (by decide)
theorem closed_of {T M : Nat} {sp : List S230} {of_ : List (List Nat)} (hf : FitB T M sp of_) (hsp : ∀ x ∈ sp, x.f3.toNat < 2 ^ T) (h64 : T ≤ 64) (l : List S166) (hl : ∀ m ∈ l, 0 ≤ m.f0 ∧ m.f0 < (sp.length : Int) ∧ 0 ≤ m.f1 ∧ m.f1.toNat < 2 ^ T) :
  ∃ r, closeN T sp of_ (64 * sp.length + 1) (marksS l (List.replicate sp.length 0, [])) = some r ∧ SetOk T sp.length r := by
 have hp := Pot.marks l _ (Pot.init sp.length) (fun m hm => ⟨(hl m hm).1, (hl m hm).2.1⟩) (fun m hm => ⟨(hl m hm).2.2.1, by have h1 := (hl m hm).2.2; have h2 := pow64 h64; unfold zbi at h2; omega⟩)
 obtain ⟨r, hr⟩ := closeN_some hf (64 * sp.length + 1) _ hp (by have := hp.pot; omega)
 have hlt := closeN_lt hsp _ _ r (Lt.marks l _ (fun x hx => by rw [(List.mem_replicate.1 hx).2]; exact Nat.two_pow_pos T) (fun m hm => (hl m hm).2.2.2)) hr
 exact ⟨r, hr, (closeN_fit hf _ _ r hp hr).1, hlt⟩
theorem goY_some {T M : Nat} {sp : List S230} {of_ : List (List Nat)} (hf : FitB T M sp of_) (hsp : ∀ x ∈ sp, x.f3.toNat < 2 ^ T) (h64 : T ≤ 64) : ∀ (mls : List (List S166)) (row : List Int) (st : SK), (∀ l ∈ mls, ∀ m ∈ l, 0 ≤ m.f0 ∧ m.f0 < (sp.length : Int) ∧ 0 ≤ m.f1 ∧ m.f1.toNat < 2 ^ T) → (∀ s ∈ st.1, SetOk T sp.length s) → st.1.length ≤ 2048 →
  ∃ res, goY T sp of_ (64 * sp.length + 1) mls row st = some res ∧ ∀ row' st', res = some (row', st') → row'.length = row.length + mls.length ∧ (∀ s ∈ st'.1, SetOk T sp.length s) ∧ st.1.length ≤ st'.1.length ∧ st'.1.length ≤ 2048
 | [], row, st, _, hs, hl => ⟨some (row, st), rfl, fun row' st' e => by cases e; exact ⟨rfl, hs, Nat.le_refl _, hl⟩⟩
 | ml :: rest, row, st, hm, hs, hl => by
  have hrest : ∀ l ∈ rest, ∀ m ∈ l, 0 ≤ m.f0 ∧ m.f0 < (sp.length : Int) ∧ 0 ≤ m.f1 ∧ m.f1.toNat < 2 ^ T := fun l h => hm l (by simp [h])
  cases ml with
  | nil =>
   obtain ⟨res, h1, h2⟩ := goY_some hf hsp h64 rest (row ++ [-1]) st hrest hs hl; refine ⟨res, h1, fun row' st' e => ?_⟩
   obtain ⟨a, b⟩ := h2 row' st' e; exact ⟨by rw [a]; simp only [List.length_append, List.length_cons, List.length_nil]; omega, b⟩
  | cons m ms =>
   cases hx : ixB (keyB (m :: ms)) st.2 with
   | some n =>
    obtain ⟨res, h1, h2⟩ := goY_some hf hsp h64 rest (row ++ [(n : Int)]) st hrest hs hl; refine ⟨res, by simp only [goY, hx]; exact h1, fun row' st' e => ?_⟩
    obtain ⟨a, b⟩ := h2 row' st' e; exact ⟨by rw [a]; simp only [List.length_append, List.length_cons, List.length_nil]; omega, b⟩
   | none =>
    by_cases hfull : st.1.length = 2048
    ·exact ⟨none, by simp only [goY, hx]; rw [if_pos hfull], fun _ _ e => by cases e⟩
    ·obtain ⟨r, hr, hok⟩ := closed_of hf hsp h64 (m :: ms) (hm _ (by simp))
     obtain ⟨res, h1, h2⟩ := goY_some hf hsp h64 rest (row ++ [(st.1.length : Int)]) (st.1 ++ [r], st.2 ++ [keyB (m :: ms)]) hrest (fun s hs2 => by
      rcases List.mem_append.1 hs2 with h | h
      ·exact hs s h
      ·rw [List.mem_singleton.1 h]; exact hok) (by simp only [List.length_append, List.length_cons, List.length_nil]; omega)
     refine ⟨res, by simp only [goY, hx]; rw [if_neg hfull, hr]; exact h1, fun row' st' e => ?_⟩
     obtain ⟨a, b, c, d⟩ := h2 row' st' e; simp only [List.length_append, List.length_cons, List.length_nil] at c; exact ⟨by rw [a]; simp only [List.length_append, List.length_cons, List.length_nil]; omega, b, by omega, d⟩
theorem goI_some {T M : Nat} {sp : List S230} {of_ : List (List Nat)} (hf : FitB T M sp of_) (hsp : ∀ x ∈ sp, x.f3.toNat < 2 ^ T) (h64 : T ≤ 64) (hnx : ∀ i, i + 1 = sp.length → (rdSp sp i).f2 < 0) : ∀ (k i : Nat) (st : SK) (gs : List (List Int)), (∀ s ∈ st.1, SetOk T sp.length s) → st.1.length ≤ 2048 → i ≤ st.1.length → gs.length = i → (∀ g ∈ gs, g.length = T + M) → 2048 < i + k →
  ∃ res, goI T M sp of_ (64 * sp.length + 1) k i st gs = some res ∧ ∀ ss gs', res = some (ss, gs') → gs'.length = ss.length ∧ ss.length ≤ 2048 ∧ (∀ s ∈ ss, SetOk T sp.length s) ∧ ∀ g ∈ gs', g.length = T + M
 | 0, i, st, gs, _, hl, hi, _, _, hk => by omega
 | k + 1, i, st, gs, hs, hl, hi, hg, hr, hk => by
  unfold goI; cases hsi : st.1[i]? with
  | none =>
   have hge : st.1.length ≤ i := by
    rcases Nat.lt_or_ge i st.1.length with h | h
    ·rw [List.getElem?_eq_getElem h] at hsi; cases hsi
    ·exact h
   exact ⟨some (st.1, gs), rfl, fun ss gs' e => by cases e; exact ⟨by omega, hl, hs, hr⟩⟩
  | some s =>
   have hil := (List.getElem?_eq_some_iff.1 hsi).1; have hok := hs s (List.mem_of_getElem? hsi); obtain ⟨res, h1, h2⟩ := goY_some hf hsp h64 (movedN (T + M) sp s s.length) [] st (fun l hlm m hm => by
    unfold movedN at hlm; obtain ⟨y, -, rfl⟩ := List.mem_map.1 hlm; exact marks_ok rfl hok.len hok.lt hnx y m hm) hs hl
   simp only; rw [h1]; cases res with
   | none => exact ⟨none, rfl, fun _ _ e => by cases e⟩
   | some rs =>
    obtain ⟨row, st'⟩ := rs; obtain ⟨a, b, c, d⟩ := h2 row st' rfl; rw [movedN_len] at a; simp only [List.length_nil, Nat.zero_add] at a; exact goI_some hf hsp h64 hnx k (i + 1) st' (gs ++ [row]) b d (by omega) (by simp [hg]) (fun g hgm => by
     rcases List.mem_append.1 hgm with h | h
     ·exact hr g h
     ·rw [List.mem_singleton.1 h]; exact a) (by omega)
theorem bits_lt {T x : Nat} (hx : x < 2 ^ T) : ∀ b ∈ bitsOf x, b < T := fun b hb => by
 unfold bitsOf at hb; rw [List.mem_filter] at hb; apply Classical.byContradiction; intro h; have h1 : x < 2 ^ b := Nat.lt_of_lt_of_le hx (Nat.pow_le_pow_right (by decide) (by omega))
 rw [Nat.testBit_lt_two_pow h1] at hb; cases hb.2
theorem items_fit {T M : Nat} {ps : List S77} {sp : List S230} (hsp : ∀ x ∈ sp, Spot T M ps.length x) {s : List Nat} (hs : SetOk T sp.length s) : FitI T ps (zbl sp s s.length) := by
 intro x hx; unfold zbl at hx; rw [List.mem_flatMap] at hx; obtain ⟨i, hi, hx⟩ := hx; rw [List.mem_range] at hi; rw [List.mem_map] at hx; obtain ⟨b, hb, rfl⟩ := hx; have h1 := (hsp _ (rdSp_mem (sp := sp) (n := i) (by have := hs.len; omega))).prod
 have h2 := bits_lt (hs.lt.fst i) b hb; unfold itemOf; exact ⟨h1.1, h1.2, Int.natCast_nonneg _, by show (b : Int) < T; omega⟩
theorem build_data {T M : Nat} {ps : List S77} (hf : Fair T M ps) (hp : 0 < ps.length) :
  ∃ k s, solveN T ps k (initF T, noV) = some s ∧ Fit s ∧ FitB T M (zbc s.1 s.2 0 ps) (zbo M ps) ∧ (∀ i, i + 1 = (zbc s.1 s.2 0 ps).length → (rdSp (zbc s.1 s.2 0 ps) i).f2 < 0)
   ∧ ∃ kf kg res, setsN T M (zbc s.1 s.2 0 ps) (zbo M ps) kf kg = some res ∧ ∀ ss gs, res = some (ss, gs) → SetsOk T M ps (zbc s.1 s.2 0 ps) ss gs := by
 obtain ⟨k, s, h1, h2, h3⟩ := solve_exists T ps hf.t64; have hB := fitB_of hf h3; have hnx := spots_last (F := s.1) (V := s.2) hp; have hSp := spotsS_ok (M := M) (V := s.2) h3 hf.t1 ps 0 (n := ps.length) (by omega) hf.rhs
 have hl := spotsS_len s.1 s.2 ps 0; have hpos : 0 < (zbc s.1 s.2 0 ps).length := by rw [hl]; have := dots_len ps; omega
 refine ⟨k, s, h1, h2, ?_⟩; generalize zbc s.1 s.2 0 ps = sp at *; have hr3 : ∀ x ∈ sp, x.f3.toNat < 2 ^ T := fun x hx => by have := (hSp x hx).rest; omega
 obtain ⟨r, hr, hok⟩ := closed_of hB hr3 hf.t64 startL (fun m hm => by
  rw [List.mem_singleton.1 hm]; refine ⟨by decide, by show (0 : Int) < _; omega, by decide, ?_⟩
  show 1 < 2 ^ T; exact Nat.one_lt_two_pow (by have := hf.t1; omega))
 obtain ⟨res, g1, g2⟩ := goI_some hB hr3 hf.t64 hnx 2049 0 ([r], [keyB startL]) [] (fun s hs => by rw [List.mem_singleton.1 hs]; exact hok) (by simp) (by simp) rfl (by simp) (by omega)
 refine ⟨hB, hnx, 64 * sp.length + 1, 2049, res, ?_, fun ss gs e => ?_⟩
 ·unfold setsN; rw [hr]; exact g1
 ·obtain ⟨a, b, c, d⟩ := g2 ss gs e; refine ⟨a, b, fun q hq => ⟨items_fit hSp (c q hq), ?_⟩, d⟩
  have h4 := listN_len sp q q.length; have h5 := (c q hq).len; have h6 := hB.n20; omega
end Bld
end Go.Proofs.YtcijanmckhlpiaaDoor
