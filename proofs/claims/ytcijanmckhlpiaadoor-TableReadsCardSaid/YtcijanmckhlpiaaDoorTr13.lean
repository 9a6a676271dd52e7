-- Texts of this seat, cut to what is used and merged (by shake.py).
import Derived.Test.YtcijanmckhlpiaaDoorTr9
import Derived.Test.YtcijanmckhlpiaaDoorTr12
import Derived.Carry
namespace Go.Proofs.YtcijanmckhlpiaaDoor
open Go.RowKit Go.Proofs.YtcijanmckhlpiaaDoorW.PrintWords Go.Proofs.YtcijanmckhlpiaaDoorW.PrintLast Go.Proofs.YtcijanmckhlpiaaDoorW.PrintMore Go.Proofs.YtcijanmckhlpiaaDoor.PTableBuilds
set_option linter.unusedVariables false
set_option linter.unusedSimpArgs false
namespace Bld
theorem gate_ins {P : Program} {ops : Array Oper} {rest : List Oper} {o : Oper} {a : Act} {Q : Exit → Act → World → Prop} {W : World} {t : TypeId} {m k x : Operand} (_ho : o.op = .insert t m k x) (h : wpList P ops Q (o :: rest) a W) : wpList P ops Q (o :: rest) a W := h
theorem insert_own {H : Type} {P : Program} {w : World} {ops : Array Oper} {rest : List Oper} {o : Oper} {a : Act} {Q : Exit → Act → World → Prop}
    (hg : o.guard = none) (hd : o.dst = none) (m x v : Operand) (t : TypeId) (hop : o.op = Op.insert t m x v)
    (k e : TypeId) (K : Maps.Keyed P k) (ht : P.underlying t = some (.map k e)) (R : Value → Option (DataW H × List MemPlace)) (b n : Nat) (D : DataW H)
    (hm : a.eval m = .map (some b)) (hown : w.ownsMap P k R b n D) (hn : n < maxLen) (key val : Value) (kl : Lit) (hx : a.eval x = key) (hv : a.eval v = val) (hkey : keyOf P k key = some kl)
    (d : DataW H) (ps : List MemPlace) (hval : R val = some (d, ps))
    (hK : ∀ w', w'.ownsMap P k R b (n + 1) (D.put kl d) → w.grownBy w' (some b) → wpList P ops Q rest a w') :
    wpList P ops Q (o :: rest) a w := by
  refine wpList_plain hg fun K' hK' => ?_
  obtain ⟨w', hrun, r1, r2⟩ := hown.update K ht hn hkey hval
  unfold Oper.wp
  have hr : (execOp a.eval o).run P w = .ok .skip w' := by
    unfold execOp
    rw [hop]
    simp only [hm, hx, hv]
    simp [hrun, Result.andThen]
  rw [hr]
  show K' (a.put o.dst undef) w'
  rw [hd]
  exact hK' _ _ (hK w' r1 r2)
theorem lit_one {α : Type} {d : Kd α} {e : Nat} {W : World} {base g : Nat} {p : α} {v : Value} {okp : Nat → Prop} (h1 : d.sz = 1) (hb : W.heap[g]? = some (.cells #[v] e (0, 0))) (hge : base ≤ g) (hM : d.M W base okp p [v]) (hok : ∀ k, okp k → k ≠ g) : d.R e W base tru (.slice (some ⟨g, 0, none⟩) 1 1) [p] := by
  refine ⟨fun _ _ => trivial, [v], ⟨by rw [h1]; rfl, .inr ⟨g, 1, #[v], rfl, hge, hb, Nat.le_refl _, by unfold maxLen; omega, by rw [h1]; rfl, by rw [h1]; rfl⟩⟩, ⟨by rw [h1]; rfl, fun j q hj => ?_⟩⟩
  cases j with
  | zero =>
    have e : p = q := by simpa using hj
    subst e
    rw [h1]
    exact d.M_mono (fun k hk => ⟨trivial, fun e => hok k hk (by injection e)⟩) hM
  | succ j => simp at hj
theorem closeN_fit {T : Nat} {sp : List S230} {of_ : List (List Nat)} {M : Nat} (hf : FitB T M sp of_) : ∀ (k : Nat) (st : List Nat × List Nat) (r : List Nat), Pot sp.length st → closeN T sp of_ k st = some r → r.length = sp.length ∧ ∀ y ∈ r, y < two64
  | 0, st, r, _, h => by simp [closeN] at h
  | k + 1, (s, todo), r, hp, h => by
    rcases List.eq_nil_or_concat todo with rfl | ⟨td, n, rfl⟩
    · have e : s = r := by simpa [closeN] using h
      subst e
      exact ⟨hp.len, hp.lt⟩
    · rw [List.concat_eq_append] at hp h
      have hpt : Pot sp.length (s, td) := by
        have h2 := hp.pop
        rwa [List.dropLast_concat] at h2
      have hn : n < sp.length := hp.td n (by simp)
      simp only [closeN, List.getLast?_append, List.getLast?_singleton, Option.some_or, List.dropLast_concat] at h
      split at h
      · exact closeN_fit hf k _ r hpt h
      · rename_i hs
        refine closeN_fit hf k _ r (Pot.puts (hf.looks_lt hpt.lt hn) _ _ hpt ?_) h
        have hsy := hf.sym _ (rdSp_mem hn)
        exact (hf.starts _ (rdOfs_mem (by have := hf.mlen; omega))).2
theorem keyB_size (l : List S166) : (keyB l).size = (keyS l).length := strOfNums_size _
theorem keyB_max (l : List S166) (h : l.length ≤ 1048576) : (strOfNums (keyS l)).size ≤ maxLen := by
  have h1 := keyB_size l
  have h2 := keyS_len l
  unfold keyB at h1
  unfold maxLen
  omega
theorem at_Sl {α : Type} {d : Kd α} {e : Nat} {W : World} {A : Option Addr} {n : Nat} {xs : List (List α)} (h : (Kd.slice e d).C W A n xs) {i : Nat} {x : List α} (hx : xs[i]? = some x) : ∃ ad A0 c0, A = some ad ∧ W.cell? (ad.add i) = some (.slice A0 x.length c0) ∧ x.length ≤ c0 ∧ d.C W A0 x.length x := by
  have hi := (List.getElem?_eq_some_iff.1 hx).1
  have hn : xs.length = n := h.1
  obtain ⟨ad, c, e', _, hK, hc⟩ := Kd.C_get h [] (i : Int) (Int.natCast_nonneg _) (by omega)
  rw [Int.toNat_natCast] at hK hc
  rw [List.getD_eq_getElem?_getD, hx] at hK
  obtain ⟨A0, c0, rfl, hl, hC⟩ := hK
  refine ⟨ad, A0, c0, e', ?_, hl, hC⟩
  have := hc 0 _ rfl
  rwa [show i * (Kd.slice e d).sz + 0 = i by simp [Kd.slice]] at this
theorem R_zeros (W : World) {B : Nat} (hB : B ≤ W.heap.size) (K : Nat) (hK : K ≤ 192) : kI.R 3 (W.alloc (.cells (Array.replicate K (Value.int .i64 0)) 3)) B tru (.slice (some ⟨W.heap.size, 0, none⟩) K K) (List.replicate K 0) := by
  refine Kd.R_of_own (enc := Value.int .i64) ?_ (fun _ _ => trivial)
  rw [List.length_replicate]
  refine ⟨by rw [encs_length, List.length_replicate, Nat.mul_one], .inr ⟨W.heap.size, K, _, rfl, hB, blk_new W _, Nat.le_refl _, by unfold maxLen; omega, by simp, ?_⟩⟩
  unfold encs
  rw [Nat.mul_one, Array.toList_replicate, List.take_of_length_le (by simp), List.map_replicate]
theorem Mr.mapped {W W1 : World} {base go bm n : Nat} {D : DU} {vo : List Value} {xs : List (List S166)} (h : Mr W base go vo xs) (hm : OM W bm n D) (hg : W.grownBy W1 (some bm)) : Mr W1 base go vo xs :=
  ⟨blk_grown h.ob hg (fun e => by cases e; exact hm.ne_cells h.ob rfl), h.rows.grown hg (fun j v q hv hq e => by
    cases e
    obtain ⟨cells, hc⟩ := h.rows.typed hv hq
    exact hm.ne_cells hc rfl)⟩
theorem Mr.hdr {W : World} {base go : Nat} {vo : List Value} {xs : List (List S166)} (h : Mr W base go vo xs) {y : Nat} {x : List S166} (hx : xs[y]? = some x) : ∃ A c, vo[y]? = some (.slice A x.length c) := by
  obtain ⟨hy, _⟩ := List.getElem?_eq_some_iff.1 hx
  have hv : vo[y]? = some (vo[y]'(by have := h.rows.len; omega)) := List.getElem?_eq_getElem _
  obtain ⟨A, c, e, _, _⟩ := Kd.R_reads (h.rows.row y _ x hv hx)
  exact ⟨A, c, by rw [hv, e]⟩
theorem Mr.hdrC {W : World} {base go : Nat} {vo : List Value} {xs : List (List S166)} (h : Mr W base go vo xs) {y : Nat} {x : List S166} (hx : xs[y]? = some x) {A : Option Addr} {n c : Nat} (hv : vo[y]? = some (.slice A n c)) : k166.C W A x.length x := (Kd.R_reads' (h.rows.row y _ x hv hx)).2.2
theorem set_row2 {row : List Int} {y K : Nat} (hl : row.length = y) (a x : Int) : ((row ++ [a]) ++ List.replicate (K - (y + 1)) 0).set y x = (row ++ [x]) ++ List.replicate (K - (y + 1)) 0 := by
  subst hl
  rw [List.append_assoc, List.set_append_right _ _ (Nat.le_refl _), Nat.sub_self, List.singleton_append, List.set_cons_zero, List.append_assoc]
  rfl
theorem below_step' {w W W1 : World} (h : Below w.heap.size w W) (k : Below W.heap.size W W1) : Below w.heap.size w W1 := below_step h k
theorem len_wf {n : Nat} (h : n ≤ 2048) : (Lit.int .i64 (n : Int)).wf = true := by
  have e : wrap64 (n : Int) = (n : Int) := by unfold wrap64; omega
  rw [← e]
  exact wrap64_wf _
theorem wf0 : (Lit.int .i64 (0 : Int)).wf = true := len_wf (n := 0) (by decide)
theorem info119 : (Tryd.prog.info? 119).map (fun i => (i.zero, i.size, i.bytes)) = some (some (.slice none 0 0), 1, 24) := by kernel_rfl
abbrev kLs : Kd (List S178) := Kd.slice 178 k178
theorem add_og (og n : Nat) : (⟨og, 0, none⟩ : Addr).add n = ⟨og, n, none⟩ := by
  unfold Addr.add
  split <;> simp_all
theorem R_at {α : Type} {d : Kd α} {e : Nat} {W : World} {base : Nat} {okp : Nat → Prop} {v : Value} {xs : List α} (h : d.R e W base okp v xs) {b : Nat} (hb : v.ownBlock = some b) : ∃ cap, v = .slice (some ⟨b, 0, none⟩) xs.length cap := by
  obtain ⟨h0, inner, ⟨hl, hor⟩, hr⟩ := h
  rcases hor with ⟨rfl, _⟩ | ⟨g, cap, cells, rfl, _⟩
  · simp [Value.ownBlock] at hb
  · simp [Value.ownBlock] at hb
    subst hb
    exact ⟨cap, rfl⟩
theorem info169 : (Tryd.prog.info? 169).map (fun i => (i.zero, i.size, i.bytes)) = some (some (.slice none 0 0), 1, 24) := by kernel_rfl
theorem drop_of_get {α : Type} {xs : List α} {y : Nat} {x : α} (h : xs[y]? = some x) : xs.drop y = x :: xs.drop (y + 1) := by
  obtain ⟨hy, he⟩ := List.getElem?_eq_some_iff.1 h
  rw [List.drop_eq_getElem_cons hy, he]
theorem set_row {row : List Int} {y K : Nat} (hy : y < K) (hl : row.length = y) (x : Int) : (row ++ List.replicate (K - y) 0).set y x = (row ++ [x]) ++ List.replicate (K - (y + 1)) 0 := by
  subst hl
  rw [List.set_append_right _ _ (Nat.le_refl _), Nat.sub_self, List.append_assoc]
  congr 1
  rw [show K - row.length = (K - (row.length + 1)) + 1 by omega, List.replicate_succ, List.set_cons_zero]
  rfl
theorem fitM_moved {sp : List S230} {s : List Nat} {y : Nat} (hN : sp.length ≤ 1048576) (hl : s.length = sp.length) (hlt : ∀ x ∈ s, x < two64) (hnx : ∀ i, i + 1 = sp.length → (rdSp sp i).f2 < 0) : FitM sp.length (marksOf sp s y s.length) := by
  have hmem : ∀ m ∈ marksOf sp s y s.length, ∃ i, i < s.length ∧ (rdSp sp i).f2 = (y : Int) ∧ m = ⟨((i + 1 : Nat) : Int), ((fst s i : Nat) : Int)⟩ := by
    intro m hm
    unfold marksOf at hm
    rw [List.mem_filterMap] at hm
    obtain ⟨i, hi, hm⟩ := hm
    rw [List.mem_range] at hi
    split at hm
    · rename_i h
      cases hm
      exact ⟨i, hi, h.2, rfl⟩
    · cases hm
  refine ⟨Nat.le_trans (marksOf_len sp s y s.length) (by omega), fun m hm => ?_, fun m hm => ?_⟩
  · obtain ⟨i, hi, hy, rfl⟩ := hmem m hm
    have h1 : i + 1 ≠ sp.length := fun e => by have := hnx i e; omega
    show 0 ≤ ((i + 1 : Nat) : Int) ∧ ((i + 1 : Nat) : Int) < (sp.length : Int)
    omega
  · obtain ⟨i, hi, hy, rfl⟩ := hmem m hm
    have := fst_lt hlt i
    unfold two64 at this
    show 0 ≤ ((fst s i : Nat) : Int) ∧ ((fst s i : Nat) : Int) < 18446744073709551616
    omega
def RetSets (w : World) (sp : List S230) (res : Option (List (List Nat) × List (List Int))) (e : Ending) (w' : World) : Prop := Below w.heap.size w w' ∧ match res with
  | none => e = .returned (.tuple #[.slice none 0 0, .slice none 0 0, .int .i64 120])
  | some (ss, gs) => ∃ A c B d, e = .returned (.tuple #[.slice A ss.length c, .slice B gs.length d, .int .i64 0]) ∧ (Kd.slice 178 k178).C w' A ss.length (ss.map fun s => listN sp s s.length) ∧ kGo.C w' B gs.length gs
set_option maxRecDepth 100000 in
set_option maxHeartbeats 4000000 in
theorem sets_any (A : Option Addr) (c : Nat) (l : List S112) (B : Option Addr) (d : Nat) (m : List S115) (C : Option Addr) (e : Nat) (ps : List S77) (w : World)
    (hg : GR w A c l B d m C e ps) (hf : Fair l.length m.length ps) (kr : Nat) (hri : items_right.f kr l m ps = some true) (k : Nat) (s : FV) (hk : solveN l.length ps k (initF l.length, noV) = some s) (hfit : Fit s) (hT : Tab64 w)
    (hfb : FitB l.length m.length (spotsS s.1 s.2 0 ps) (ofAll m.length ps)) (hnx : ∀ i, i + 1 = (spotsS s.1 s.2 0 ps).length → (rdSp (spotsS s.1 s.2 0 ps) i).f2 < 0) (hp0 : 0 < ps.length) (kf kg : Nat) (res : Option (List (List Nat) × List (List Int))) (hres : setsN l.length m.length (spotsS s.1 s.2 0 ps) (ofAll m.length ps) kf kg = some res) :
    Calls Tryd.prog 40 #[.agg #[.slice A l.length c, .slice B m.length d, .slice C ps.length e]] w (RetSets w (spotsS s.1 s.2 0 ps) res) := by
  have HG := Lib.hid hg
  have HF := Lib.hid hf
  have HRI := Lib.hid hri
  have HK := Lib.hid hk
  have HFT := Lib.hid hfit
  have HTB := Lib.hid hT
  have HFB := Lib.hid hfb
  have HNX := Lib.hid hnx
  have t1 := hf.t1
  have t64 := hf.t64
  have m128 := hf.m128
  have hspl : 0 < (spotsS s.1 s.2 0 ps).length := by
    rw [spotsS_len]
    have := dots_len ps
    omega
  have hN := hfb.n20
  generalize hsp : spotsS s.1 s.2 0 ps = sp at *
  generalize hof : ofAll m.length ps = of_ at *
  have HSP := Lib.hid hsp
  have HOF := Lib.hid hof
  have HRES := Lib.hid hres
  have hbA := below_alloc (Below.refl w.heap.size w) (.cells #[.slice A l.length c, .slice B m.length d, .slice C ps.length e] 51)
  have HG1 := Lib.hid (hg.below hbA)
  have HX0 := Lib.hid (blk_new w (.cells #[.slice A l.length c, .slice B m.length d, .slice C ps.length e] 51))
  have HBA := Lib.hid hbA
  clear hg hf hri hk hfit hT hfb hnx hbA hsp hof hres
  go_enter Tryd.func40, Tryd.ntmps40
  go_wp2_with (go_at_call 63; refine (items_right.calls kr A c l B d m C e ps true _ HG1.out.hA HG1.out.cA HG1.out.hB HG1.out.cB HG1.out.hC HG1.out.cC HRI.out).mono ?_; rintro e1 w1 ⟨rfl, hb1⟩; refine Hid.out ?_)
  refine Lib.hid ?_
  have HX1 := Lib.hid (blk_below HX0.out hb1)
  have HB1 := Lib.hid (below_step HBA.out hb1)
  clear HX0 HBA HG1 hb1
  have hg0 := blk_cell HX1.out 0
  have hg1 := blk_cell HX1.out 1
  have hg2 := blk_cell HX1.out 2
  simp at hg0 hg1 hg2
  go_wp2_with (go_at_call 64; refine (newBook_any A c l B d m C e ps _ (HG.out.below HB1.out) HF.out k s HK.out HFT.out).mono ?_; rintro e2 w2 ⟨gb, rfl, hbk⟩; refine Hid.out ?_)
  refine Lib.hid ?_
  obtain ⟨go, vsp, vat, vo, hbk⟩ := hbk.x
  rw [HSP.out, HOF.out] at hbk
  have HX2 := Lib.hid (blk_below HX1.out hbk.below)
  have HB2 := Lib.hid (below_step HB1.out hbk.below)
  clear hg0 hg1 hg2 HX1
  obtain ⟨As, cs, rfl, hcs, hCs⟩ := Kd.R_reads hbk.sp
  have hofl : of_.length = m.length := HFB.out.mlen
  have hvl : vo.length = m.length := by rw [hbk.of_.len, hofl]
  have HBR : Hid (BookR w2 gb A l.length c B m.length d (.slice C ps.length e) vat As cs sp (some ⟨go, 0, none⟩) m.length of_) := Lib.hid ⟨by have h := hbk.bk; rw [hofl]; exact h, hCs, hbk.of_.reads hbk.ob (by omega), hcs⟩
  clear hbk hCs hcs hofl hvl HB1
  have hres := HRES.out
  unfold setsN at hres
  obtain ⟨r0, hr0⟩ : ∃ r0, closeN l.length sp of_ kf (marksS startL (List.replicate sp.length 0, [])) = some r0 := by
    cases h : closeN l.length sp of_ kf (marksS startL (List.replicate sp.length 0, [])) with
    | none => rw [h] at hres; cases hres
    | some r => exact ⟨r, rfl⟩
  rw [hr0] at hres
  have HGI : Hid (goI l.length m.length sp of_ kf kg 0 ([r0], [keyB startL]) [] = some res) := Lib.hid hres
  have HR0 := Lib.hid hr0
  have hsm : FitM sp.length startL := ⟨by decide, fun q hq => by rw [List.mem_singleton.1 hq]; exact ⟨by decide, by show (0 : Int) < _; omega⟩, fun q hq => by rw [List.mem_singleton.1 hq]; exact ⟨by decide, by decide⟩⟩
  have HSM := Lib.hid hsm
  have HF0 := Lib.hid (closeN_fit HFB.out kf _ r0 (Pot.marks startL _ (Pot.init sp.length) hsm.spot hsm.looks) hr0)
  have HBA := Lib.hid (below_alloc (Below.refl w2.heap.size w2) (.cells #[.int .i64 0, .int .u64 1] 166))
  have hst := C_lit1 (k := k166) (x := ⟨0, 1⟩) (cs := [.int .i64 0, .int .u64 1]) (k166_mk _ _) (blk_new w2 (.cells #[.int .i64 0, .int .u64 1] 166))
  have HST0 : Hid (k166.C (w2.alloc (.cells #[.int .i64 0, .int .u64 1] 166)) (some ⟨w2.heap.size, 0, none⟩) startL.length startL) := Lib.hid hst
  clear hres hr0 hsm hst HRES
  go_wp2_with (go_at_call 65; refine (closed_any gb A l.length c B m.length d (.slice C ps.length e) vat As cs sp (some ⟨go, 0, none⟩) m.length of_ _ (HBR.out.below HBA.out) HFB.out t64 m128 (some ⟨w2.heap.size, 0, none⟩) 1 startL HST0.out HSM.out kf r0 HR0.out).mono ?_; rintro e3 w4 ⟨v0, rfl, hrv, hb4⟩; refine Hid.out ?_)
  refine Lib.hid ?_
  have HB3 := Lib.hid (below_alloc HB2.out (.cells #[.int .i64 0, .int .u64 1] 166))
  have HBR3 := Lib.hid (HBR.out.below HBA.out)
  have HX3 := Lib.hid (blk_alloc HX2.out (.cells #[.int .i64 0, .int .u64 1] 166))
  clear HB2 HBR HX2 HBA
  generalize hsl : w2.heap.size = sl at *
  generalize w2.alloc (.cells #[.int .i64 0, .int .u64 1] 166) = w3 at *
  have HB4 := Lib.hid hb4
  obtain ⟨A0, c0, rfl, -, -⟩ := Kd.R_reads hrv
  have HRV := Lib.hid hrv
  clear hrv hb4
  have HST4 := Lib.hid (Kd.C_below HST0.out (below_step HB4.out (below_alloc (below_alloc (Below.refl w4.heap.size w4) (.cells #[.slice A0 r0.length c0] 169)) (.map #[] 0))))
  have hsets : kSets.R 169 ((w4.alloc (.cells #[.slice A0 r0.length c0] 169)).alloc (.map #[] 0)) w3.heap.size tru (.slice (some ⟨w4.heap.size, 0, none⟩) 1 1) [r0] := by
    have hr := Kd.R_alloc (Kd.R_alloc (Kd.R_mono (Kd.R_bound HRV.out) (fun k hk => hk.2.2.1)) (.cells #[.slice A0 r0.length c0] 169)) (.map #[] 0)
    exact lit_one rfl (blk_alloc (blk_new w4 _) _) HB4.out.size ⟨_, rfl, hr⟩ (fun k hk => Nat.ne_of_lt hk)
  have HSETS := Lib.hid hsets
  have hom : OM ((w4.alloc (.cells #[.slice A0 r0.length c0] 169)).alloc (.map #[] 0)) (w4.heap.size + 1) 0 (.map []) := by
    have h := World.ownsMap_made (H := Unit) (w4.alloc (.cells #[.slice A0 r0.length c0] 169)) Tryd.prog 9 (plainElem (H := Unit) Tryd.prog 3)
    rw [szA] at h
    exact h
  have HOM := Lib.hid hom
  have HB5 := Lib.hid (below_alloc (below_alloc HB4.out (.cells #[.slice A0 r0.length c0] 169)) (.map #[] 0))
  have hbm : w4.heap.size + 1 < ((w4.alloc (.cells #[.slice A0 r0.length c0] 169)).alloc (.map #[] 0)).heap.size := by rw [szA, szA]; omega
  clear hsets hom HRV
  have hmm := @run_makeMap Tryd.prog
  go_wp2_with (go_at_call 66; refine (key_any _ (some ⟨sl, 0, none⟩) 1 startL HST4.out sp.length hN HSM.out).mono ?_; rintro e6 w6 ⟨rfl, hb6⟩; refine Hid.out ?_)
  refine Lib.hid ?_
  clear hmm
  generalize hbmE : w4.heap.size + 1 = bm at *
  have hbmge : w3.heap.size ≤ bm := by have := HB4.out.size; omega
  have HOM6 := Lib.hid (HOM.out.below hb6 hbm)
  have HSETS6 := Lib.hid (Kd.R_below HSETS.out hb6)
  have HB6 := Lib.hid (below_step HB5.out hb6)
  clear hb6 HOM HSETS HST4 HB5 HB4 hbm
  have hks : (strOfNums (keyS startL)).size ≤ maxLen := keyB_max startL (by decide)
  have hkey := WideMaps.keyOf_string_mk (P := Tryd.prog) Tryd.underlying9 hks
  go_wp2_with (((with_reducible refine gate_ins rfl ?_)); refine Hid.out ?_)
  refine Lib.hid ?_
  refine insert_own rfl rfl _ _ _ 103 rfl 9 3 (Maps.string_keyed Tryd.underlying9) Tryd.underlying103 (plainElem (H := Unit) Tryd.prog 3) bm 0 _ rfl HOM6.out (by decide) _ _ (kl (keyB startL)) rfl rfl hkey (.lit (.int .i64 0)) [] (plainElem_int Tryd.underlying3 wf0) ?_
  intro w7 hm7 hg7
  have HSX : Hid (Sx w3 w7 bm 1 ((.map [] : DU).put (kl (keyB startL)) (.lit (.int .i64 0))) (.slice (some ⟨w4.heap.size, 0, none⟩) 1 1) (.slice none 0 0) (.slice none 0 0) ([r0], [keyB startL]) []) := Lib.hid
    ⟨below_mapped HB6.out hg7 hbmge, hm7, KM.start _, hbmge, rfl, R_mapped HSETS6.out HOM6.out hg7, Kd.R_nil _ _ _ _ _⟩
  have HTB3 := Lib.hid (HTB.out.below HB3.out)
  clear hm7 hg7 HOM6 HSETS6 HB6 hkey hks HST0 HSM HR0
  have HL0 : Hid (∀ q ∈ [r0], q.length = sp.length ∧ ∀ y ∈ q, y < two64) := Lib.hid (fun q hq => by rw [List.mem_singleton.1 hq]; exact HF0.out)
  clear HF0
  go_wp2_with fail
  go_loopg [7, 9, 10] kg (fun kq v7 v9 v10 w' => ∃ (i : Nat) (D : DU) (A7 : Option Addr) (c7 : Nat) (A9 : Option Addr) (n9 c9 : Nat) (st : SK) (gs : List (List Int)), v10 = .int .i64 (i : Int) ∧ v7 = .slice A7 st.1.length c7 ∧ v9 = .slice A9 n9 c9 ∧ kq ≤ kg ∧ i ≤ 2048 ∧ st.1.length ≤ 2048 ∧ Hid (gs.length = i) ∧ Hid (goI l.length m.length sp of_ kf kq i st gs = some res) ∧ Hid (∀ q ∈ st.1, q.length = sp.length ∧ ∀ y ∈ q, y < two64) ∧ Hid (Sx w3 w' bm st.2.length D (.slice A7 st.1.length c7) (.slice A9 n9 c9) (.slice none 0 0) st gs))
  case atStart => exact ⟨0, _, _, _, _, _, _, ([r0], [keyB startL]), [], rfl, rfl, rfl, Nat.le_refl _, Nat.zero_le _, (show 1 ≤ 2048 by decide), Lib.hid rfl, HGI, HL0, HSX⟩
  case round =>
    clear HGI HL0 HSX
    obtain ⟨i, D, A7, c7, A9, n9, c9, st, gs, rfl, rfl, rfl, hkq, hi, hst, HGL, HGI, HL, HSX⟩ := hrel
    obtain ⟨ss, keys⟩ := st
    simp only at hi hst HSX HL
    obtain ⟨st0, hst0⟩ : ∃ st0, st0 = (ss, keys) := ⟨_, rfl⟩
    by_cases hil : i < ss.length
    · have hib : decide ((i : Int) < (ss.length : Int)) = true := decide_eq_true (by omega)
      have hi0 : (0 : Int) ≤ (i : Int) := by omega
      have hi1 : (i : Int) < (ss.length : Int) := by omega
      have hiw : IntKind.i64.wrap ((i : Int) + 1) = (i : Int) + 1 := IntWalk.i64_in _ (by omega)
      obtain ⟨K, hK⟩ : ∃ K, K = l.length + m.length := ⟨_, rfl⟩
      have hK192 : K ≤ 192 := by omega
      have hw0 : IntKind.i64.wrap ((l.length : Int) + (m.length : Int)) = (K : Int) := by rw [IntWalk.i64_in _ (by omega)]; omega
      have hmk : ∀ W : World, (Instr.makeSlice 95 (.int .i64 (K : Int)) (.int .i64 (K : Int))).run Tryd.prog W = .ok (.slice (some ⟨W.heap.size, 0, none⟩) K K) (W.alloc (.cells (Array.replicate K (Value.int .i64 0)) 3)) := fun W => by
        rw [← List.toArray_replicate, ← made_one]
        exact run_make_row' 95 3 (.int .i64 0) 8 Tryd.underlying95 info3 rfl .i64 .i64 K (by omega) (by omega) W
      have HKE := Lib.hid hK
      have HXW := Lib.hid (blk_below HX3.out HSX.out.below)
      have g0 := blk_cell HXW.out 0
      have g1 := blk_cell HXW.out 1
      simp at g0 g1
      obtain ⟨si, hsi⟩ : ∃ si, ss[i]? = some si := ⟨_, List.getElem?_eq_getElem hil⟩
      have HSI := Lib.hid hsi
      obtain ⟨hsl0, hslt⟩ := HL.out si (List.mem_of_getElem? hsi)
      have HSLT := Lib.hid hslt
      obtain ⟨hn7, hc7, hC7⟩ := Kd.R_reads' HSX.out.sets
      obtain ⟨ad7, A5, c5, rfl, s0, -, hC5⟩ := at_Sl (d := kU) (e := 128) hC7 (i := i) hsi
      have HC5 := Lib.hid hC5
      have HSR := Lib.hid ((HSX.out.row (v1 := .slice (some ⟨wr.heap.size, 0, none⟩) K K) (fun q hq => by simp [Value.ownBlock] at hq; omega)).alloc (.cells (Array.replicate K (Value.int .i64 0)) 3))
      have HRW := Lib.hid (R_zeros wr HSX.out.below.size K (by omega))
      clear hK hsi hslt hn7 hc7 hC7 hC5
      have s1 := pw_cell_below (below_alloc (Below.refl wr.heap.size wr) (.cells (Array.replicate K (Value.int .i64 0)) 3)) s0
      have HMVC := Lib.hid (moved_any gb A l.length c B m.length d (.slice C ps.length e) vat As cs sp (some ⟨go, 0, none⟩) m.length of_ (wr.alloc (.cells (Array.replicate K (Value.int .i64 0)) 3)) (HBR3.out.below HSR.out.below) HFB.out t64 m128 A5 c5 si (Kd.C_alloc HC5.out _) hsl0 HSLT.out)
      have HSL0 := Lib.hid hsl0
      clear hsl0
      go_wp2_with (go_at_call 67; refine (HMVC.out).mono ?_; rintro e8 w8 ⟨gm, vm, rfl, hMr, hb8⟩; refine Hid.out ?_)
      refine Lib.hid ?_
      have HSX8 := Lib.hid (HSR.out.bel hb8)
      have HRW8 := Lib.hid (Kd.R_below HRW.out hb8)
      have HMR := Lib.hid hMr
      clear hmk hw0 g0 g1 s0 s1 HMVC HC5 HXW HSR HRW hMr hb8
      generalize hrb : wr.heap.size = rb at *
      rw [← HKE.out]
      generalize hbw : (wr.alloc (.cells (Array.replicate K (Value.int .i64 0)) 3)).heap.size = bw at *
      have HGY : Hid (goY l.length sp of_ kf ((movedN K sp si si.length).drop 0) [] (ss, keys) = goY l.length sp of_ kf (movedN K sp si si.length) [] st0) := Lib.hid (by rw [List.drop_zero, hst0])
      have HST0 := Lib.hid hst0
      clear hst0
      rw [← HKE.out] at HMR
      go_wp2_with fail
      go_loopw [7, 56] (fun v7 v w' => ∃ (y : Nat) (D : DU) (st : SK) (row : List Int) (A7 : Option Addr) (c7 : Nat), v = .int .i64 (y : Int) ∧ v7 = .slice A7 st.1.length c7 ∧ y ≤ K ∧ st.1.length ≤ 2048 ∧ Hid (row.length = y) ∧ Hid (goY l.length sp of_ kf ((movedN K sp si si.length).drop y) row st = goY l.length sp of_ kf (movedN K sp si si.length) [] st0) ∧ Hid (∀ q ∈ st.1, q.length = sp.length ∧ ∀ y ∈ q, y < two64) ∧ Hid (Sx w3 w' bm st.2.length D (.slice A7 st.1.length c7) (.slice A9 n9 c9) (.slice (some ⟨rb, 0, none⟩) K K) st gs) ∧ Hid (kI.R 3 w' w3.heap.size tru (.slice (some ⟨rb, 0, none⟩) K K) (row ++ List.replicate (K - y) 0)) ∧ Hid (Mr w' bw gm vm (movedN K sp si si.length))) (fun _ v _ => K - (intOf v).toNat)
      case atStart => exact ⟨0, D, (ss, keys), [], _, _, rfl, rfl, Nat.zero_le _, hst, Lib.hid rfl, HGY, HL, HSX8, HRW8, HMR⟩
      case round =>
        clear HGY HL HSX8 HRW8 HMR HSX
        obtain ⟨y, D, st, row, A7, c7, rfl, rfl, hy, hst, HRL, HGY, HL, HSX, HRW, HMR⟩ := hrel
        obtain ⟨ss, keys⟩ := st
        simp only at hst HSX HL HGY
        by_cases hyl : y < K
        · have hml : (movedN K sp si si.length)[y]? = some (marksOf sp si y si.length) := movedN_get hyl
          obtain ⟨Aml, cml, hvm⟩ := HMR.out.hdr hml
          have h0 : wr.cell? ⟨gm, y, none⟩ = some (.slice Aml (marksOf sp si y si.length).length cml) := (blk_cell HMR.out.ob y).trans (by rw [List.getElem?_toArray]; exact hvm)
          have HFM := Lib.hid (fitM_moved (sp := sp) (s := si) (y := y) hN HSL0.out HSLT.out HNX.out)
          have hgy := HGY.out
          rw [drop_of_get hml] at hgy
          have HGY1 := Lib.hid hgy
          obtain ⟨mb, hmb⟩ := Kd.R_typed HRW.out rb rfl
          have hrwc := Kd.R_celln 0 HRW.out (y : Int) (Int.natCast_nonneg _) (by omega)
          rw [Int.toNat_natCast] at hrwc
          obtain ⟨r1, r1f⟩ := hrwc
          have HSX1 := Lib.hid (HSX.out.rowSet rfl HRW.out y (.int .i64 (-1)))
          have HMR1 := Lib.hid (HMR.out.set hmb (by decide) (by decide) y (.int .i64 (-1)))
          have hrw1 := Kd.R_putn HRW.out (y : Int) (-1)
          rw [Int.toNat_natCast, set_row hyl HRL.out] at hrw1
          have HRW1 := Lib.hid hrw1
          have HCM := Lib.hid (HMR1.out.hdrC hml hvm)
          have HVM := Lib.hid hvm
          have HML := Lib.hid hml
          have hib2 : decide ((y : Int) < (K : Int)) = true := decide_eq_true (by omega)
          have hy0 : (0 : Int) ≤ (y : Int) := Int.natCast_nonneg _
          have hy1 : (y : Int) < (K : Int) := by omega
          have hyw : IntKind.i64.wrap ((y : Int) + 1) = (y : Int) + 1 := IntWalk.i64_in _ (by omega)
          have hy2 : y + 1 ≤ K := hyl
          have hme : K - (y + 1) < K - y := by omega
          have HRL1 : Hid ((row ++ [-1]).length = y + 1) := Lib.hid (by rw [List.length_append, HRL.out]; rfl)
          clear hml hgy HGY hrw1 hvm HSX HMR HRW hmb
          generalize marksOf sp si y si.length = ml at *
          cases ml with
          | nil =>
            have HGY2 : Hid (goY l.length sp of_ kf ((movedN K sp si si.length).drop (y + 1)) (row ++ [-1]) (ss, keys) = goY l.length sp of_ kf (movedN K sp si si.length) [] (st0)) := HGY1
            have hle : ((0 : Int) == 0) = true := rfl
            go_wp2_with fail
            go_roundw
            case rel => first | exact ⟨y + 1, D, (ss, keys), _, _, _, by rw [Int.natCast_add]; rfl, rfl, hy2, hst, HRL1, HGY2, HL, HSX1, HRW1, HMR1⟩ | ((repeat apply Exists.intro); exact ⟨⟨y + 1, D, (ss, keys), _, _, _, by rw [Int.natCast_add]; rfl, rfl, hy2, hst, HRL1, HGY2, HL, HSX1, HRW1, HMR1⟩, rfl⟩)
            case measure => exact hme
          | cons mk ms =>
            have HGYc : Hid ((match ixB (keyB (mk :: ms)) keys with
              | some n => goY l.length sp of_ kf ((movedN K sp si si.length).drop (y + 1)) (row ++ [(n : Int)]) (ss, keys)
              | none => if ss.length = 2048 then some none else match closeN l.length sp of_ kf (marksS (mk :: ms) (List.replicate sp.length 0, [])) with
                | none => none
                | some r => goY l.length sp of_ kf ((movedN K sp si si.length).drop (y + 1)) (row ++ [(ss.length : Int)]) (ss ++ [r], keys ++ [keyB (mk :: ms)])) = goY l.length sp of_ kf (movedN K sp si si.length) [] st0) := HGY1
            have hl0 : 0 < (mk :: ms).length := by simp
            clear HGY1
            generalize mk :: ms = ml at *
            have hle : (((ml.length : Nat) : Int) == 0) = false := by rw [beq_eq_false_iff_ne]; omega
            have hle2 : ((ml.length : Int) = 0) = False := propext ⟨fun h => by omega, False.elim⟩
            go_wp2_with (go_at_call 66; refine (key_any _ Aml cml ml HCM.out sp.length hN HFM.out).mono ?_; rintro e6 wk ⟨rfl, hbk6⟩; refine Hid.out ?_)
            refine Lib.hid ?_
            have HSX2 := Lib.hid (HSX1.out.bel hbk6)
            have HRW2 := Lib.hid (Kd.R_below HRW1.out hbk6)
            have HMR2 := Lib.hid (HMR1.out.bel hbk6)
            clear HSX1 HRW1 HMR1 HCM hbk6 h0 r1 r1f hle hle2
            have hks := keyB_max ml HFM.out.len
            obtain ⟨mb2, hmb2⟩ := Kd.R_typed HRW2.out rb rfl
            have hrwc := Kd.R_celln 0 HRW2.out (y : Int) (Int.natCast_nonneg _) hy1
            rw [Int.toNat_natCast] at hrwc
            obtain ⟨r1, r1f⟩ := hrwc
            cases hix : ixB (keyB ml) keys with
            | some n =>
              have hlk := look_yes HSX2.out.map HSX2.out.km (strOfNums (keyS ml)) hks hix
              have HGY2 : Hid (goY l.length sp of_ kf ((movedN K sp si si.length).drop (y + 1)) (row ++ [(n : Int)]) (ss, keys) = goY l.length sp of_ kf (movedN K sp si si.length) [] st0) := Lib.hid (by
                have h := HGYc.out
                rw [hix] at h
                exact h)
              have HSX3 := Lib.hid (HSX2.out.rowSet rfl HRW2.out y (.int .i64 (n : Int)))
              have HMR3 := Lib.hid (HMR2.out.set hmb2 (by decide) (by decide) y (.int .i64 (n : Int)))
              have hrw3 := Kd.R_putn HRW2.out (y : Int) (n : Int)
              rw [Int.toNat_natCast, set_row2 HRL.out] at hrw3
              have HRW3 := Lib.hid hrw3
              have HRL3 : Hid ((row ++ [(n : Int)]).length = y + 1) := Lib.hid (by rw [List.length_append, HRL.out]; rfl)
              clear hix hrw3 HSX2 HMR2 HRW2 HGYc hmb2 hks
              go_wp2_with fail
              go_roundw
              case rel => first | exact ⟨y + 1, D, (ss, keys), _, _, _, by rw [Int.natCast_add]; rfl, rfl, hy2, hst, HRL3, HGY2, HL, HSX3, HRW3, HMR3⟩ | ((repeat apply Exists.intro); exact ⟨⟨y + 1, D, (ss, keys), _, _, _, by rw [Int.natCast_add]; rfl, rfl, hy2, hst, HRL3, HGY2, HL, HSX3, HRW3, HMR3⟩, rfl⟩)
              case measure => exact hme
            | none =>
              obtain ⟨cz, hlk⟩ := look_no HSX2.out.map HSX2.out.km (strOfNums (keyS ml)) hks hix
              have HIX := Lib.hid hix
              by_cases h2048 : ss.length = 2048
              · have hln : (((ss.length : Nat) : Int) == 2048) = true := by rw [h2048]; rfl
                have hres : res = none := by
                  have h := HGYc.out
                  rw [hix] at h
                  simp only [h2048, if_true] at h
                  have h2 := HGI.out
                  rw [← HST0.out] at h2
                  cases gk with
                  | zero => simp [goI] at h2
                  | succ g =>
                    unfold goI at h2
                    have h3 : st0.1[i]? = some si := by rw [HST0.out]; exact HSI.out
                    rw [h3] at h2
                    simp only at h2
                    rw [← HKE.out, ← h] at h2
                    simpa using h2.symm
                have HRES := Lib.hid hres
                have HBE := Lib.hid (below_step' HB3.out HSX2.out.below)
                clear hix h2048 hres HSX2 HMR2 HRW2 HGYc hmb2 hks
                go_wp2_with fail
                go_ret3
                have hr := HRES.out
                subst hr
                exact ⟨HBE.out, rfl⟩
              · have hln : (((ss.length : Nat) : Int) == 2048) = false := by rw [beq_eq_false_iff_ne]; omega
                have hst2 : ss.length + 1 ≤ 2048 := by omega
                obtain ⟨r, hr⟩ : ∃ r, closeN l.length sp of_ kf (marksS ml (List.replicate sp.length 0, [])) = some r := by
                  cases hc : closeN l.length sp of_ kf (marksS ml (List.replicate sp.length 0, [])) with
                  | some r => exact ⟨r, rfl⟩
                  | none =>
                    exfalso
                    have h := HGYc.out
                    rw [hix] at h
                    simp only [h2048, if_false, hc] at h
                    have h2 := HGI.out
                    rw [← HST0.out] at h2
                    cases gk with
                    | zero => simp [goI] at h2
                    | succ g =>
                      unfold goI at h2
                      have h3 : st0.1[i]? = some si := by rw [HST0.out]; exact HSI.out
                      rw [h3] at h2
                      simp only at h2
                      rw [← HKE.out, ← h] at h2
                      cases h2
                have HGY2 : Hid (goY l.length sp of_ kf ((movedN K sp si si.length).drop (y + 1)) (row ++ [(ss.length : Int)]) (ss ++ [r], keys ++ [keyB ml]) = goY l.length sp of_ kf (movedN K sp si si.length) [] st0) := Lib.hid (by
                  have h := HGYc.out
                  rw [hix] at h
                  simp only [h2048, if_false, hr] at h
                  exact h)
                have HR := Lib.hid hr
                have HFR := Lib.hid (closeN_fit HFB.out kf _ r (Pot.marks ml _ (Pot.init sp.length) HFM.out.spot HFM.out.looks) hr)
                have hkl : keys.length = ss.length := HSX2.out.len
                have hkey := WideMaps.keyOf_string_mk (P := Tryd.prog) Tryd.underlying9 hks
                have HKL := Lib.hid hkl
                clear hix hr h2048 HGYc hkl
                go_wp2_with ((at_mapUpdate); refine Hid.out ?_)
                refine Lib.hid ?_
                have hwf := len_wf (show ss.length ≤ 2048 by omega)
                have hnm : keys.length < maxLen := by rw [HKL.out]; unfold maxLen; omega
                refine wpList_mapUpdate_own _ rfl _ _ _ 103 rfl 9 3 (Maps.string_keyed Tryd.underlying9) Tryd.underlying103 _ bm _ _ rfl HSX2.out.map hnm _ _ _ rfl rfl hkey _ [] (plainElem_int Tryd.underlying3 hwf) ?_
                intro wm hm7 hg7
                obtain ⟨hbm7, hs7, hgo7⟩ := HSX2.out.mapped hg7
                have HMR7 := Lib.hid (HMR2.out.mapped HSX2.out.map hg7)
                have HRW7 := Lib.hid (R_mapped HRW2.out HSX2.out.map hg7)
                have hkm7 := HSX2.out.km.step HIX.out
                rw [HKL.out] at hkm7
                have HKM7 := Lib.hid hkm7
                have HOM7 := Lib.hid hm7
                have HB7 := Lib.hid hbm7
                have HS7 := Lib.hid hs7
                have HGO7 := Lib.hid hgo7
                have HCM7 := Lib.hid (HMR7.out.hdrC HML.out HVM.out)
                have HBR7 := Lib.hid (HBR3.out.below HB7.out)
                clear hm7 hg7 hbm7 hs7 hgo7 hkm7 HSX2 HMR2 HRW2 hmb2 r1 r1f hlk hkey hks hwf hnm
                go_wp2_with (go_at_call 65; refine (closed_any gb A l.length c B m.length d (.slice C ps.length e) vat As cs sp (some ⟨go, 0, none⟩) m.length of_ _ HBR7.out HFB.out t64 m128 Aml cml ml HCM7.out HFM.out kf r HR.out).mono ?_; rintro e8 wc ⟨vr, rfl, hrv, hbc⟩; refine Hid.out ?_)
                refine Lib.hid ?_
                obtain ⟨Ar, cr, rfl, -, -⟩ := Kd.R_reads hrv
                have hMv : kSets.M wc w3.heap.size (fun q => some q ≠ (Value.slice A7 ss.length c7).ownBlock) r [.slice Ar r.length cr] := ⟨_, rfl, Kd.R_lower (Kd.R_mono (Kd.R_bound hrv) (fun q hq e => by
                  have h1 := Kd.R_lt HS7.out q e.symm
                  have h2 := hq.2.1
                  omega)) HB7.out.size⟩
                have HMV := Lib.hid hMv
                have HB8 := Lib.hid (below_step HB7.out hbc)
                have HS8 := Lib.hid (Kd.R_below HS7.out hbc)
                have HGO8 := Lib.hid (Kd.R_below HGO7.out hbc)
                have HRW8 := Lib.hid (Kd.R_below HRW7.out hbc)
                have HMR8 := Lib.hid (HMR7.out.bel hbc)
                have HOM8 := Lib.hid (OM.below HOM7.out hbc (by obtain ⟨es, ck, hh⟩ := OM.blk HOM7.out; exact (Array.getElem?_eq_some_iff.1 hh).1))
                have hbo : (ss.length + 1) * 24 ≤ 140737488355328 := by omega
                clear hrv hMv hbc HB7 HS7 HGO7 HRW7 HMR7 HOM7 HCM7 HBR7
                go_wp2_with ((with_reducible refine gate_builtin (b := .append) (xs := #[.tmp 85, .tmp 89]) rfl ?_); refine Hid.out ?_)
                refine Lib.hid ?_
                at_builtin
                refine Kd.R_append kSets (w0 := w3) (W := wc) w3.heap.size rfl (.tmp 85) (.tmp 89) 171 169 (.slice none 0 0) 24 rfl Tryd.underlying171 info169 rfl (by decide) (by decide) (.slice A7 ss.length c7) ss r [.slice Ar r.length cr] tru (fun q => some q ≠ (Value.slice A7 ss.length c7).ownBlock) rfl rfl HMV.out (fun _ hk => ⟨trivial, hk⟩) (fun _ _ => trivial) HS8.out HB8.out HB8.out.size hbo ?_
                intro v9 ws ho9 hb9 hg9 hat9
                have hS9 : Sx w3 ws bm (keys.length + 1) (D.put (kl (keyB ml)) (.lit (.int .i64 (ss.length : Int)))) v9 (.slice A9 n9 c9) (.slice (some ⟨rb, 0, none⟩) K K) (ss ++ [r], keys ++ [keyB ml]) gs := ⟨hb9, World.ownsMap.kept HOM8.out hg9 (OM.ne_own HOM8.out HS8.out), HKM7.out, hbmge, by rw [List.length_append, List.length_append, HKL.out]; rfl, ho9, Kd.R_over HGO8.out HS8.out (by decide) hg9⟩
                have hRW9 : kI.R 3 ws w3.heap.size tru (.slice (some ⟨rb, 0, none⟩) K K) ((row ++ [-1]) ++ List.replicate (K - (y + 1)) 0) := Kd.R_over HRW8.out HS8.out (by decide) hg9
                have hMR9 := HMR8.out.over HS8.out (by decide) (by decide) hg9
                obtain ⟨A8, c8, rfl, -, -⟩ := Kd.R_reads ho9
                obtain ⟨mb9, hmb9⟩ := Kd.R_typed hRW9 rb rfl
                obtain ⟨q1, q1f⟩ := Kd.R_celln 0 hRW9 (y : Int) (Int.natCast_nonneg _) hy1
                rw [Int.toNat_natCast] at q1 q1f
                have HSXA := Lib.hid (hS9.rowSet rfl hRW9 y (.int .i64 (ss.length : Int)))
                have HMRA := Lib.hid (hMR9.set hmb9 (by decide) (by decide) y (.int .i64 (ss.length : Int)))
                have hrwA := Kd.R_putn hRW9 (y : Int) (ss.length : Int)
                rw [Int.toNat_natCast, set_row2 HRL.out] at hrwA
                have HRWA := Lib.hid hrwA
                have HRLA : Hid ((row ++ [(ss.length : Int)]).length = y + 1) := Lib.hid (by rw [List.length_append, HRL.out]; rfl)
                have HLA : Hid (∀ q ∈ ss ++ [r], q.length = sp.length ∧ ∀ y ∈ q, y < two64) := Lib.hid (fun q hq => by
                  rcases List.mem_append.1 hq with hq | hq
                  · exact HL.out q hq
                  · rw [List.mem_singleton.1 hq]; exact HFR.out)
                have hstA : (ss ++ [r]).length ≤ 2048 := by rw [List.length_append]; exact hst2
                have HST2 := Lib.hid hstA
                clear ho9 hb9 hg9 hat9 hS9 hRW9 hMR9 hmb9 hrwA HS8 HGO8 HRW8 HMR8 HOM8 HB8 HMV hstA
                have hln2 : (ss ++ [r]).length = ss.length + 1 := by rw [List.length_append]; rfl
                have HSXB : Hid (Sx w3 (ws.setCell ⟨rb, y, none⟩ (.int .i64 (ss.length : Int))) bm (keys ++ [keyB ml]).length (D.put (kl (keyB ml)) (.lit (.int .i64 (ss.length : Int)))) (.slice A8 (ss ++ [r]).length c8) (.slice A9 n9 c9) (.slice (some ⟨rb, 0, none⟩) K K) (ss ++ [r], keys ++ [keyB ml]) gs) := by
                  have hkl2 : (keys ++ [keyB ml]).length = keys.length + 1 := by rw [List.length_append]; rfl
                  rw [hkl2]
                  exact HSXA
                clear HSXA
                go_wp2_with fail
                go_roundw
                case rel => exact ⟨y + 1, D.put (kl (keyB ml)) (.lit (.int .i64 (ss.length : Int))), (ss ++ [r], keys ++ [keyB ml]), row ++ [(ss.length : Int)], A8, c8, by rw [Int.natCast_add]; rfl, by rw [hln2], hy2, HST2.out, HRLA, HGY2, HLA, HSXB, HRWA, HMRA⟩
                case measure => exact hme
        · have hyK : y = K := by omega
          have hgy := HGY.out
          rw [List.drop_eq_nil_of_le (by rw [movedN_len, hyK]; exact Nat.le_refl _)] at hgy
          have HGE : Hid (goY l.length sp of_ kf (movedN K sp si si.length) [] st0 = some (some (row, (ss, keys)))) := Lib.hid hgy.symm
          have hrw := HRW.out
          rw [show K - y = 0 by omega, List.replicate_zero, List.append_nil] at hrw
          have HRW1 := Lib.hid hrw
          have HRLK : Hid (row.length = K) := Lib.hid (HRL.out.trans hyK)
          have hib2 : decide ((y : Int) < (K : Int)) = false := decide_eq_false (by omega)
          have hMg : kGo.M wr w3.heap.size (fun q => some q ≠ (Value.slice A9 n9 c9).ownBlock) row [.slice (some ⟨rb, 0, none⟩) K K] := ⟨_, rfl, Kd.R_mono (Kd.R_apart' HRW1.out (v := .slice A9 n9 c9) (e' := 95) (fun q hq => Kd.R_typed HSX.out.gos q hq) (by decide)) (fun q hq => hq.2)⟩
          have HMG := Lib.hid hMg
          have hbo : (gs.length + 1) * 24 ≤ 140737488355328 := by have := HGL.out; omega
          have HGO1 : Hid (kGo.R 95 wr w3.heap.size tru (.slice A9 n9 c9) gs) := Lib.hid (Kd.R_drop HSX.out.gos)
          clear hgy HGY hrw HRW HRL HMR hyK hMg
          go_wp2_with ((with_reducible refine gate_builtin (b := .append) (xs := #[.tmp 96, .tmp 98]) rfl ?_); refine Hid.out ?_)
          refine Lib.hid ?_
          at_builtin
          refine Kd.R_append kGo (w0 := w3) (W := wr) w3.heap.size rfl (.tmp 96) (.tmp 98) 23 95 (.slice none 0 0) 24 rfl Tryd.underlying23 info95 rfl (by decide) (by decide) (.slice A9 n9 c9) gs row [.slice (some ⟨rb, 0, none⟩) K K] tru (fun q => some q ≠ (Value.slice A9 n9 c9).ownBlock) rfl rfl HMG.out (fun _ hk => ⟨trivial, hk⟩) (fun _ _ => trivial) HGO1.out HSX.out.below HSX.out.below.size hbo ?_
          intro v9 ws ho9 hb9 hg9 hat9
          have HSXG := Lib.hid (HSX.out.appG ho9 hg9 hb9)
          obtain ⟨A10, c10, rfl, -, -⟩ := Kd.R_reads ho9
          clear ho9 hb9 hg9 hat9 HMG HGO1 HSX
          obtain ⟨g, hg, HGI2⟩ : ∃ g, g + 1 = gk ∧ Hid (goI l.length m.length sp of_ kf g (i + 1) (ss, keys) (gs ++ [row]) = some res) := by
            have h2 := HGI.out
            rw [← HST0.out] at h2
            cases gk with
            | zero => simp [goI] at h2
            | succ g =>
              refine ⟨g, rfl, Lib.hid ?_⟩
              unfold goI at h2
              have h3 : st0.1[i]? = some si := by rw [HST0.out]; exact HSI.out
              rw [h3] at h2
              simp only at h2
              rw [← HKE.out, HGE.out] at h2
              exact h2
          have hi2 : i + 1 ≤ 2048 := by omega
          have hgq : g < gk := by omega
          have hgk2 : g ≤ kg := by omega
          have hln3 : (gs ++ [row]).length = gs.length + 1 := by rw [List.length_append]; rfl
          have HGL2 : Hid ((gs ++ [row]).length = i + 1) := Lib.hid (by rw [hln3, HGL.out])
          go_wp2_with fail
          go_roundg g
          case measure => exact hgq
          case rel => exact ⟨i + 1, D, A7, c7, A10, (gs ++ [row]).length, c10, (ss, keys), gs ++ [row], by rw [Int.natCast_add]; rfl, rfl, by rw [hln3], hgk2, hi2, hst, HGL2, HGI2, HL, HSXG⟩
    · have hres : res = some (ss, gs) := by
        have h2 := HGI.out
        cases gk with
        | zero => simp [goI] at h2
        | succ g =>
          unfold goI at h2
          rw [List.getElem?_eq_none (by simpa using hil)] at h2
          simpa using h2.symm
      have HRES := Lib.hid hres
      have hib : decide ((i : Int) < (ss.length : Int)) = false := decide_eq_false (by omega)
      clear hres HGI hst0
      go_wp2_with ((with_reducible refine gate_ (.makeSlice 116 (.tmp 101) (.tmp 101)) rfl ?_); refine Hid.out ?_)
      refine Lib.hid ?_
      refine Kd.R_make kLs (w0 := w3) (W := wr) w3.heap.size 119 rfl rfl 116 (.tmp 101) (.tmp 101) rfl (ss.length : Int) rfl rfl Tryd.underlying116 (.slice none 0 0) 24 info119 rfl (by decide) (by decide) [] (ok := tru) (okp := fun _ => False) ⟨_, rfl, Kd.R_nil _ _ _ _ _⟩ (fun _ h => h.elim) trivial (Int.natCast_nonneg _) (by rw [Int.toNat_natCast]; omega) HSX.out.below HSX.out.below.size ?_
      intro v1 w9 ho9 hb9 hg9 hat9
      rw [Int.toNat_natCast] at ho9
      have HSX9 := Lib.hid (HSX.out.bel (pw_below_grown (Below.refl wr.heap.size wr) none (Nat.le_refl _) hg9 (fun k h => by cases h)))
      obtain ⟨og, hog, _⟩ := hat9
      obtain ⟨oc, rfl⟩ := R_at ho9 hog
      rw [List.length_replicate]
      have HS0 := Lib.hid HSX9.out.sets
      have HGO0 : Hid (kGo.R 95 w9 w3.heap.size tru (.slice A9 n9 c9) gs) := Lib.hid (Kd.R_drop HSX9.out.gos)
      have HBB0 := Lib.hid HSX9.out.below
      have HO0 : Hid (kLs.R 119 w9 w3.heap.size tru (.slice (some ⟨og, 0, none⟩) ss.length oc) ((ss.take 0).map (fun s => listN sp s s.length) ++ List.replicate (ss.length - 0) [])) := Lib.hid (by
        have h := ho9
        rw [List.length_replicate] at h
        exact h)
      clear ho9 hb9 hg9 hog HSX HSX9
      go_wp2_with fail
      go_loopw [105] (fun v w' => ∃ (q : Nat), v = .int .i64 (q : Int) ∧ q ≤ ss.length ∧ Hid (Below w3.heap.size w3 w') ∧ Hid (kSets.R 169 w' w3.heap.size tru (.slice A7 ss.length c7) ss) ∧ Hid (kGo.R 95 w' w3.heap.size tru (.slice A9 n9 c9) gs) ∧ Hid (kLs.R 119 w' w3.heap.size tru (.slice (some ⟨og, 0, none⟩) ss.length oc) ((ss.take q).map (fun s => listN sp s s.length) ++ List.replicate (ss.length - q) []))) (fun v _ => ss.length - (intOf v).toNat)
      case atStart => exact ⟨0, rfl, Nat.zero_le _, HBB0, HS0, HGO0, HO0⟩
      case round =>
        clear HBB0 HS0 HGO0 HO0
        obtain ⟨q, rfl, hq, HBB, HS, HGO, HO⟩ := hrel
        by_cases hql : q < ss.length
        · obtain ⟨sq, hsq⟩ : ∃ sq, ss[q]? = some sq := ⟨_, List.getElem?_eq_getElem hql⟩
          obtain ⟨hsl0, hslt⟩ := HL.out sq (List.mem_of_getElem? hsq)
          obtain ⟨hn7, hc7, hC7⟩ := Kd.R_reads' HS.out
          obtain ⟨ad7, A5, c5, rfl, s0, -, hC5⟩ := at_Sl (d := kU) (e := 128) hC7 (i := q) hsq
          have HSQ := Lib.hid hsq
          have hib3 : decide ((q : Int) < (ss.length : Int)) = true := decide_eq_true (by omega)
          have hq0 : (0 : Int) ≤ (q : Int) := Int.natCast_nonneg _
          have hq1 : (q : Int) < (ss.length : Int) := by omega
          have hqw : IntKind.i64.wrap ((q : Int) + 1) = (q : Int) + 1 := IntWalk.i64_in _ (by omega)
          have hq2 : q + 1 ≤ ss.length := hql
          have hme : ss.length - (q + 1) < ss.length - q := by omega
          have HLC := Lib.hid (list_any gb A l.length c B m.length d (.slice C ps.length e) vat As cs sp (some ⟨go, 0, none⟩) m.length of_ wr (HBR3.out.below HBB.out) hN (HTB3.out.below HBB.out) A5 c5 sq hC5 hsl0 hslt)
          clear hsq hn7 hc7 hC7 hC5 hsl0 hslt
          go_wp2_with (go_at_call 68; refine (HLC.out).mono ?_; rintro e8 w8 ⟨vr, rfl, hrv, hb8⟩; refine Hid.out ?_)
          refine Lib.hid ?_
          obtain ⟨Av, cv, rfl, -, -⟩ := Kd.R_reads hrv
          have hbg : og < wr.heap.size := by
            obtain ⟨cells, hc⟩ := Kd.R_typed HO.out og rfl
            exact (Array.getElem?_eq_some_iff.1 hc).1
          have hMo : kLs.M w8 w3.heap.size (fun k => k ≠ og) (listN sp sq sq.length) [.slice Av (listN sp sq sq.length).length cv] := ⟨_, rfl, Kd.R_lower (Kd.R_mono (Kd.R_bound hrv) (fun k hk e => by
            have h2 := hk.2.1
            omega)) HBB.out.size⟩
          have HMO := Lib.hid hMo
          have HBB1 := Lib.hid (below_step HBB.out hb8)
          have HS1 := Lib.hid (Kd.R_below HS.out hb8)
          have HGO1 := Lib.hid (Kd.R_below HGO.out hb8)
          have HO1 := Lib.hid (Kd.R_below HO.out hb8)
          clear HLC hrv hbg hMo hb8 HBB HS HGO HO s0
          go_wp2_with ((with_reducible refine gate_ (.store 119 (.tmp 115) (.tmp 114)) rfl ?_); refine Hid.out ?_)
          refine Lib.hid ?_
          obtain ⟨hnO, -, hCO⟩ := Kd.R_reads' HO1.out
          obtain ⟨ado, co, eo, hco, hKo, hcc⟩ := Kd.C_get hCO [] (q : Int) hq0 (by first | (rw [← hnO]; exact hq1) | omega)
          cases eo
          have hset : ((ss.take q).map (fun s => listN sp s s.length) ++ List.replicate (ss.length - q) []).set q (listN sp sq sq.length) = (ss.take (q + 1)).map (fun s => listN sp s s.length) ++ List.replicate (ss.length - (q + 1)) [] := by
            have hlt : ((ss.take q).map (fun s => listN sp s s.length)).length = q := by rw [List.length_map, List.length_take]; omega
            obtain ⟨hq', hsq'⟩ := List.getElem?_eq_some_iff.1 HSQ.out
            rw [List.set_append_right _ _ (by rw [hlt]; exact Nat.le_refl _), hlt, Nat.sub_self, List.take_succ_eq_append_getElem hq', List.map_append, List.append_assoc, hsq']
            congr 1
            rw [show ss.length - q = (ss.length - (q + 1)) + 1 by omega, List.replicate_succ, List.set_cons_zero]
            rfl
          have HSET := Lib.hid hset
          refine Kd.R_store kLs (w0 := w3) (W := w8) w3.heap.size rfl rfl 119 (.tmp 115) (.tmp 114) rfl 119 (q : Int) 0 _ (listN sp sq sq.length) (.slice Av (listN sp sq sq.length).length cv) [.slice Av (listN sp sq sq.length).length cv] co tru (fun k => k ≠ og) rfl (by show _ = (q : Int).toNat * 1 + 0; simp) rfl rfl (by kernel_rfl) (fun u hu => by rw [List.mem_singleton.1 hu]; rfl) HO1.out hq0 hq1 (by first | exact hco | exact Kd.K_len hKo | (have hh : co.length = 1 := by (obtain ⟨_, _, rfl, _⟩ := hKo; rfl); exact hh)) (by first | exact hcc | (intro j u hj; have h := hcc j u hj; rw [add_og] at h; exact h)) (by show 0 + 1 ≤ 1; exact Nat.le_refl _) (by
            have hh : co.length = 1 := by first | exact hco | (obtain ⟨_, _, rfl, _⟩ := hKo; rfl)
            have : (co.take 0 ++ [Value.slice Av (listN sp sq sq.length).length cv] ++ co.drop 1) = [Value.slice Av (listN sp sq sq.length).length cv] := by
              rw [List.drop_eq_nil_of_le (by omega)]; rfl
            show kLs.M _ _ _ _ (co.take 0 ++ [Value.slice Av (listN sp sq sq.length).length cv] ++ co.drop 1)
            rw [this]; exact HMO.out) (fun k hk => ⟨trivial, hk⟩) HBB1.out ?_
          intro ws ho hb hg
          rw [Int.toNat_natCast, HSET.out] at ho
          have HO2 := Lib.hid ho
          have HBB2 := Lib.hid hb
          have HS2 : Hid (kSets.R 169 ws w3.heap.size tru (.slice (some ad7) ss.length c7) ss) := Lib.hid (Kd.R_over HS1.out HO1.out (by decide) hg)
          have HGO2 : Hid (kGo.R 95 ws w3.heap.size tru (.slice A9 n9 c9) gs) := Lib.hid (Kd.R_over HGO1.out HO1.out (by decide) hg)
          clear ho hb hg HO1 HBB1 HS1 HGO1 HMO hCO hKo hcc hset hnO hco
          go_wp2_with fail
          go_roundw
          case rel => exact ⟨q + 1, by rw [Int.natCast_add]; rfl, hq2, HBB2, HS2, HGO2, HO2⟩
          case measure => exact hme
        · have hib3 : decide ((q : Int) < (ss.length : Int)) = false := decide_eq_false (by omega)
          have ho := HO.out
          rw [List.take_of_length_le (by omega), show ss.length - q = 0 by omega, List.replicate_zero, List.append_nil] at ho
          obtain ⟨hn1, -, hC1⟩ := Kd.R_reads' ho
          rw [List.length_map] at hC1
          obtain ⟨hn2, -, hC2⟩ := Kd.R_reads' HGO.out
          subst hn2
          have HC1 := Lib.hid hC1
          have HC2 := Lib.hid hC2
          have HBE := Lib.hid (below_step' HB3.out HBB.out)
          clear ho hn1 hC1 hC2 HO HGO HS
          go_wp2_with fail
          go_ret3
          have hr := HRES.out
          subst hr
          exact ⟨HBE.out, _, _, _, _, rfl, HC1.out, HC2.out⟩
abbrev TRows := List (List S93) × List (List Int)
abbrev BR := Sum TRows (Int × Int × Int)
def goB (T : Nat) (ps : List S77) : List (List S178) → List (List Int) → Nat → TRows → BR
  | [], _, _, acc => .inl acc
  | s :: ss, gs, i, acc => match (rowS T ps s (gs.getD i [])).2 with
    | some c => .inr (130, (i : Int), (c : Int))
    | none => goB T ps ss gs (i + 1) (acc.1 ++ [(rowS T ps s (gs.getD i [])).1], acc.2 ++ [(gs.getD i []).drop T])
def buildS (T : Nat) (ps : List S77) (sp : List S230) : Option (List (List Nat) × List (List Int)) → BR
  | none => .inr (120, -1, -1)
  | some (ss, gs) => goB T ps (ss.map fun s => listN sp s s.length) gs 0 ([], [])
structure SetsOk (T M : Nat) (ps : List S77) (sp : List S230) (ss : List (List Nat)) (gs : List (List Int)) : Prop where
  len : gs.length = ss.length
  most : ss.length ≤ 2048
  fit : ∀ s ∈ ss, FitI T ps (listN sp s s.length) ∧ (listN sp s s.length).length ≤ 1099511627776
  row : ∀ g ∈ gs, g.length = T + M
abbrev HD := Option Addr × Nat × Nat
def kH : Kd HD := Kd.scalar (fun h : HD => .slice h.1 h.2.1 h.2.2) (fun _ => rfl)
def hdr (h : HD) : Value := .slice h.1 h.2.1 h.2.2
section
variable {α : Type} {k : Kd α} {t : Nat} {w w1 : World} {base : Nat} {vs : List Value} {xs : List (List α)}
theorem Rows.snoc (hE : k.E = []) (h : Rows k t w base vs xs) {v : Value} {x : List α} {ok : Nat → Prop} (hR : k.R t w base ok v x) (hn : ∀ (j : Nat) (u : Value) (q : Nat), vs[j]? = some u → u.ownBlock = some q → v.ownBlock ≠ some q) : Rows k t w base (vs ++ [v]) (xs ++ [x]) := by
  have hl := h.len
  refine ⟨by simp [hl], fun j u y hu hy => ?_, fun i j u u' hij hu hu' q hq => ?_⟩
  · rcases Nat.lt_trichotomy j vs.length with hj | hj | hj
    · rw [List.getElem?_append_left hj] at hu
      rw [List.getElem?_append_left (by omega)] at hy
      exact h.row j u y hu hy
    · rw [List.getElem?_append_right (by omega), show j - vs.length = 0 by omega] at hu
      rw [List.getElem?_append_right (by omega), show j - xs.length = 0 by omega] at hy
      cases hu; cases hy
      exact Kd.R_tight hE hR
    · rw [List.getElem?_eq_none (by simp; omega)] at hu
      cases hu
  · have key : ∀ (a : Nat) (z : Value), (vs ++ [v])[a]? = some z → (a < vs.length ∧ vs[a]? = some z) ∨ (a = vs.length ∧ z = v) := fun a z hz => by
      rcases Nat.lt_trichotomy a vs.length with ha | ha | ha
      · rw [List.getElem?_append_left ha] at hz
        exact .inl ⟨ha, hz⟩
      · rw [List.getElem?_append_right (by omega), show a - vs.length = 0 by omega] at hz
        cases hz
        exact .inr ⟨ha, rfl⟩
      · rw [List.getElem?_eq_none (by simp; omega)] at hz
        cases hz
    rcases key i u hu with ⟨hi, hu2⟩ | ⟨hi, hu2⟩
    · rcases key j u' hu' with ⟨hj, hu3⟩ | ⟨hj, hu3⟩
      · exact h.apart i j u u' hij hu2 hu3 q hq
      · rw [hu3]; exact hn i u q hu2 hq
    · rcases key j u' hu' with ⟨hj, hu3⟩ | ⟨hj, hu3⟩
      · intro he
        rw [hu2] at hq
        exact hn j u' q hu3 he hq
      · omega
theorem Rows.lower {base' : Nat} (h : Rows k t w base vs xs) (hb : base' ≤ base) : Rows k t w base' vs xs := ⟨h.len, fun j v x hv hx => Kd.R_lower (h.row j v x hv hx) hb, h.apart⟩
theorem Rows.empty : Rows k t w base [] [] := ⟨rfl, fun j v x hv => by simp at hv, fun i j u v _ hu => by simp at hu⟩
theorem Rows.readsH {A : Option Addr} {n : Nat} {hs : List HD} (h : Rows k t w base (hs.map hdr) xs) (hA : kH.C w A n hs) : (Kd.slice t k).C w A n xs := by
  obtain ⟨h1, h2, h3⟩ := hA
  have hl := h.len
  rw [List.length_map] at hl
  refine ⟨by omega, h2, fun hp => ?_⟩
  obtain ⟨ad, e, hh⟩ := h3 hp
  refine ⟨ad, e, fun j p hj => ?_⟩
  obtain ⟨hjl, _⟩ := List.getElem?_eq_some_iff.1 hj
  obtain ⟨x, hx⟩ : ∃ x, hs[j]? = some x := ⟨_, List.getElem?_eq_getElem (by omega)⟩
  obtain ⟨cs, hcl, hcs, hcc⟩ := hh j x hx
  have hv : (hs.map hdr)[j]? = some (hdr x) := by rw [List.getElem?_map, hx]; rfl
  obtain ⟨A2, c2, e2, hc2, hC2⟩ := Kd.R_reads (h.row j _ p hv hj)
  have e3 : cs = [hdr x] := hcs
  refine ⟨cs, by rw [e3]; rfl, ?_, hcc⟩
  rw [e3, e2]
  exact ⟨A2, c2, rfl, hc2, hC2⟩
end
structure Tx (w3 W : World) (tb : Nat) (vA vG : Value) (hA hG : List HD) (uA uG : List Value) (rows : List (List S93)) (gos : List (List Int)) : Prop where
  below : Below w3.heap.size w3 W
  tbk : W.heap[tb]? = some (.cells #[vA, vG] 25 (0, 0))
  ge : w3.heap.size ≤ tb
  A : kH.R 90 W w3.heap.size tru vA hA
  ra : Rows k93 93 W w3.heap.size uA rows
  G : kH.R 95 W w3.heap.size tru vG hG
  rg : Rows kInt 3 W w3.heap.size uG gos
theorem E93 : k93.E = [] := rfl
theorem EInt : kInt.E = [] := rfl
section
variable {w3 W W1 : World} {tb : Nat} {vA vG : Value} {hA hG : List HD} {uA uG : List Value} {rows : List (List S93)} {gos : List (List Int)}
theorem Tx.bel (h : Tx w3 W tb vA vG hA hG uA uG rows gos) (hb : Below W.heap.size W W1) : Tx w3 W1 tb vA vG hA hG uA uG rows gos :=
  ⟨below_step h.below hb, blk_below h.tbk hb, h.ge, Kd.R_below h.A hb, h.ra.below hb, Kd.R_below h.G hb, h.rg.below hb⟩
theorem Tx.alloc (h : Tx w3 W tb vA vG hA hG uA uG rows gos) (o : Obj) : Tx w3 (W.alloc o) tb vA vG hA hG uA uG rows gos := h.bel (below_alloc (Below.refl _ _) o)
theorem Tx.drewN (h : Tx w3 W tb vA vG hA hG uA uG rows gos) (n : Nat) : Tx w3 (W.drewN n) tb vA vG hA hG uA uG rows gos := h.bel (pw_below_drewN (Below.refl _ _) n)
theorem Tx.drew (h : Tx w3 W tb vA vG hA hG uA uG rows gos) : Tx w3 W.drew tb vA vG hA hG uA uG rows gos := h.bel (below_drew (Below.refl _ _))
theorem Tx.newA (h : Tx w3 W tb vA vG hA hG uA uG rows gos) {v : Value} {row : List S93} {b : Nat} (hR : k93.R 93 W b tru v row) (hb : w3.heap.size ≤ b) (hn : ∀ (j : Nat) (u : Value) (q : Nat), uA[j]? = some u → u.ownBlock = some q → v.ownBlock ≠ some q) : Tx w3 W tb vA vG hA hG (uA ++ [v]) uG (rows ++ [row]) gos :=
  ⟨h.below, h.tbk, h.ge, h.A, h.ra.snoc E93 (Kd.R_lower hR hb) hn, h.G, h.rg⟩
theorem Tx.newG (h : Tx w3 W tb vA vG hA hG uA uG rows gos) {v : Value} {row : List Int} {b : Nat} (hR : kInt.R 3 W b tru v row) (hb : w3.heap.size ≤ b) (hn : ∀ (j : Nat) (u : Value) (q : Nat), uG[j]? = some u → u.ownBlock = some q → v.ownBlock ≠ some q) : Tx w3 W tb vA vG hA hG uA (uG ++ [v]) rows (gos ++ [row]) :=
  ⟨h.below, h.tbk, h.ge, h.A, h.ra, h.G, h.rg.snoc EInt (Kd.R_lower hR hb) hn⟩
theorem Tx.appA (h : Tx w3 W tb vA vG hA hG uA uG rows gos) {v1 : Value} {hA1 : List HD} (hR : kH.R 90 W1 w3.heap.size tru v1 hA1) (hg : W.grownBy W1 vA.ownBlock) (hb : Below w3.heap.size w3 W1) : W1.heap[tb]? = some (.cells #[vA, vG] 25 (0, 0)) ∧ Tx w3 (W1.setCell ⟨tb, 0, none⟩ v1) tb v1 vG hA1 hG uA uG rows gos := by
  have h1 := blk_grown h.tbk hg (Kd.R_ne h.A h.tbk (by decide))
  have h2 := h.ra.over h.A (by decide) hg
  have h3 := Kd.R_over h.G h.A (by decide) hg
  have h4 := h.rg.over h.A (by decide) hg
  exact ⟨h1, below_set hb h.ge, blk_put h1 0 v1 rfl, h.ge, Kd.R_set hR h1 (by decide) 0 v1, h2.set h1 (by decide) 0 v1, Kd.R_set h3 h1 (by decide) 0 v1, h4.set h1 (by decide) 0 v1⟩
theorem Tx.appG (h : Tx w3 W tb vA vG hA hG uA uG rows gos) {v1 : Value} {hG1 : List HD} (hR : kH.R 95 W1 w3.heap.size tru v1 hG1) (hg : W.grownBy W1 vG.ownBlock) (hb : Below w3.heap.size w3 W1) : W1.heap[tb]? = some (.cells #[vA, vG] 25 (0, 0)) ∧ Tx w3 (W1.setCell ⟨tb, 1, none⟩ v1) tb vA v1 hA hG1 uA uG rows gos := by
  have h1 := blk_grown h.tbk hg (Kd.R_ne h.G h.tbk (by decide))
  have h2 := h.ra.over h.G (by decide) hg
  have h3 := Kd.R_over h.A h.G (by decide) hg
  have h4 := h.rg.over h.G (by decide) hg
  exact ⟨h1, below_set hb h.ge, blk_put h1 1 v1 rfl, h.ge, Kd.R_set h3 h1 (by decide) 1 v1, h2.set h1 (by decide) 1 v1, Kd.R_set hR h1 (by decide) 1 v1, h4.set h1 (by decide) 1 v1⟩
end
structure TbOwn (W : World) (base : Nat) (vA vG : Value) (rows : List (List S93)) (gos : List (List Int)) : Prop where
  own : ∃ hA hG, kH.R 90 W base tru vA hA ∧ Rows k93 93 W base (hA.map hdr) rows ∧ kH.R 95 W base tru vG hG ∧ Rows kInt 3 W base (hG.map hdr) gos
def RetBuild (w : World) (res : BR) (e : Ending) (w' : World) : Prop := Below w.heap.size w w' ∧ match res with
  | .inl (rows, gos) => ∃ A c B d, e = .returned (.tuple #[.agg #[.slice A rows.length c, .slice B gos.length d], .int .i64 0, .int .i64 0, .int .i64 0]) ∧ TbOwn w' w.heap.size (.slice A rows.length c) (.slice B gos.length d) rows gos
  | .inr (code, s, t) => e = .returned (.tuple #[.agg #[.slice none 0 0, .slice none 0 0], .int .i64 code, .int .i64 s, .int .i64 t])
theorem results_cttt {P : Program} {fn : Func} {p u v x : Tmp} {ty : TypeId} (h : fn.results = #[.cell p ty, .tmp u, .tmp v, .tmp x]) (tmps : Array Value) (w : World) (g : Nat) (t : TypeId) (cs : Array Value) (fr : Nat × Nat) (d : TypeDesc)
    (hp : tmps.getD p undef = .pointer (some ⟨g, 0, none⟩)) (hg : w.heap[g]? = some (.cells cs t fr))
    (hu : P.underlying ty = some d) (hd : (match d with | .struct _ | .array _ _ => true | _ => false) = true) (hi : (P.info? ty).map (·.size) = some cs.size) :
    (results fn tmps).run P w = .ok (.tuple #[.agg cs, tmps.getD u undef, tmps.getD v undef, tmps.getD x undef]) w := by
  have hp' : tmps[p]?.getD undef = .pointer (some ⟨g, 0, none⟩) := by simpa using hp
  simp [results, h, hp', asAddr, run_loadVar_row w g t ty cs fr d hg hu hd hi]
theorem info90 : (Tryd.prog.info? 90).map (fun i => (i.zero, i.size, i.bytes)) = some (some (.slice none 0 0), 1, 24) := by kernel_rfl
theorem goB_step (T : Nat) (ps : List S77) (s : List S178) (ss : List (List S178)) (gs : List (List Int)) (i : Nat) (acc : TRows) (g : List Int) (hg : gs[i]? = some g) : goB T ps (s :: ss) gs i acc = match (rowS T ps s g).2 with
    | some c => .inr (130, (i : Int), (c : Int))
    | none => goB T ps ss gs (i + 1) (acc.1 ++ [(rowS T ps s g).1], acc.2 ++ [g.drop T]) := by
  have e : gs.getD i [] = g := by rw [List.getD_eq_getElem?_getD, hg]; rfl
  show (match (rowS T ps s (gs.getD i [])).2 with
    | some c => (.inr (130, (i : Int), (c : Int)) : BR)
    | none => goB T ps ss gs (i + 1) (acc.1 ++ [(rowS T ps s (gs.getD i [])).1], acc.2 ++ [(gs.getD i []).drop T])) = _
  rw [e]
theorem Rows.cut {α : Type} {k : Kd α} {t : Nat} {w : World} {base : Nat} {vs : List Value} {xs : List (List α)} (h : Rows k t w base vs xs) {b : Nat} (hb : w.heap.size ≤ b) {v : Value} (hv : ∀ q, v.ownBlock = some q → b ≤ q) : ∀ (j : Nat) (u : Value) (q : Nat), vs[j]? = some u → u.ownBlock = some q → v.ownBlock ≠ some q := fun j u q hu hq he => by
  have h1 := h.lt hu hq
  have h2 := hv q he
  omega
set_option maxRecDepth 100000 in
set_option maxHeartbeats 4000000 in
theorem build_any (A : Option Addr) (c : Nat) (l : List S112) (B : Option Addr) (d : Nat) (m : List S115) (C : Option Addr) (e : Nat) (ps : List S77) (w : World)
    (hg : GR w A c l B d m C e ps) (hf : Fair l.length m.length ps) (kr : Nat) (hri : items_right.f kr l m ps = some true) (k : Nat) (s : FV) (hk : solveN l.length ps k (initF l.length, noV) = some s) (hfit : Fit s) (hT : Tab64 w)
    (hfb : FitB l.length m.length (spotsS s.1 s.2 0 ps) (ofAll m.length ps)) (hnx : ∀ i, i + 1 = (spotsS s.1 s.2 0 ps).length → (rdSp (spotsS s.1 s.2 0 ps) i).f2 < 0) (hp0 : 0 < ps.length) (kf kg : Nat) (res : Option (List (List Nat) × List (List Int))) (hres : setsN l.length m.length (spotsS s.1 s.2 0 ps) (ofAll m.length ps) kf kg = some res)
    (hok : ∀ ss gs, res = some (ss, gs) → SetsOk l.length m.length ps (spotsS s.1 s.2 0 ps) ss gs) (het : Dec.ErrType w) :
    Calls Tryd.prog 20 #[.agg #[.slice A l.length c, .slice B m.length d, .slice C ps.length e]] w (RetBuild w (buildS l.length ps (spotsS s.1 s.2 0 ps) res)) := by
  have h64 := hf.t64
  have t1 := hf.t1
  have hm128 := hf.m128
  have HPL := Lib.hid (fun (p : S77) (hp : p ∈ ps) => Nat.le_of_lt (hf.row hp))
  have hb0 := below_alloc (below_alloc (Below.refl w.heap.size w) (.cells #[.slice A l.length c, .slice B m.length d, .slice C ps.length e] 51)) (.cells #[.slice none 0 0, .slice none 0 0] 25)
  have HB0 := Lib.hid hb0
  have HG := Lib.hid (hg.below hb0)
  have HET := Lib.hid (het.below hb0)
  have HTB := Lib.hid (hT.below hb0)
  have HX := Lib.hid (blk_alloc (blk_new w (.cells #[.slice A l.length c, .slice B m.length d, .slice C ps.length e] 51)) (.cells #[.slice none 0 0, .slice none 0 0] 25))
  have hrb := blk_new (w.alloc (.cells #[.slice A l.length c, .slice B m.length d, .slice C ps.length e] 51)) (.cells #[.slice none 0 0, .slice none 0 0] 25)
  rw [szA] at hrb
  have HRB := Lib.hid hrb
  have HCALL := Lib.hid (fun (w2 : World) (h1 : GR w2 A c l B d m C e ps) (h2 : Tab64 w2) => sets_any A c l B d m C e ps w2 h1 hf kr hri k s hk hfit h2 hfb hnx hp0 kf kg res hres)
  have hrbs : w.heap.size ≤ w.heap.size + 1 := Nat.le_succ _
  generalize hsp : spotsS s.1 s.2 0 ps = sp at *
  have HOK := Lib.hid hok
  clear hb0 hg het hT hrb hf hri hk hfit hfb hnx hres hsp hok
  go_enter Tryd.func20, Tryd.ntmps20
  go_wp2_with ((with_reducible refine gate_ (.load 51 (.tmp 1)) rfl ?_); refine Hid.out ?_)
  refine Lib.hid ?_
  generalize (w.alloc (.cells #[.slice A l.length c, .slice B m.length d, .slice C ps.length e] 51)).alloc (.cells #[.slice none 0 0, .slice none 0 0] 25) = w2 at *
  generalize hrbe : w.heap.size + 1 = rb at *
  generalize hgbe : w.heap.size = gb at *
  have x0 := blk_cell HX.out 0
  have x1 := blk_cell HX.out 1
  have x2 := blk_cell HX.out 2
  simp at x0 x1 x2
  rcases res with _ | ⟨ss, gs⟩
  · go_wp2_with (go_at_call 40; refine (HCALL.out w2 HG.out HTB.out).mono ?_; rintro e1 w3 ⟨hb3, rfl⟩; refine Hid.out ?_)
    refine Lib.hid ?_
    have HB3 := Lib.hid hb3
    have HR3 := Lib.hid (blk_below HRB.out hb3)
    have r0 := blk_cell HR3.out 0
    have r0f := blk_frozen HR3.out 0
    have r1 := blk_cell HR3.out 1
    have r1f := blk_frozen HR3.out 1
    simp at r0 r1
    clear hb3
    go_wp2_with fail
    refine bodyPost_ret (results_cttt rfl _ _ rb 25 #[.slice none 0 0, .slice none 0 0] (0, 0) _ rfl (blk_put (cs' := #[.slice none 0 0, .slice none 0 0]) (blk_put (cs' := #[.slice none 0 0, .slice none 0 0]) HR3.out 0 _ rfl) 1 _ rfl) Tryd.underlying25 rfl (by kernel_rfl)) rfl ?_
    refine ⟨?_, rfl⟩
    have hbw : Below w.heap.size w w3 := below_step (w := w) (by rw [hgbe]; exact HB0.out) HB3.out
    have hge : w.heap.size ≤ rb := by omega
    exact below_set (below_set hbw hge) hge
  · have HSO := Lib.hid (HOK.out ss gs rfl)
    go_wp2_with (go_at_call 40; refine (HCALL.out w2 HG.out HTB.out).mono ?_; rintro e1 w3 ⟨hb3, As, ca, Bs, cb, rfl, hss, hgs⟩; refine Hid.out ?_)
    refine Lib.hid ?_
    have HB3 := Lib.hid hb3
    have HR3 := Lib.hid (blk_below HRB.out hb3)
    have HX3 := Lib.hid (blk_below HX.out hb3)
    have HG3 := Lib.hid (HG.out.below hb3)
    have HET3 := Lib.hid (HET.out.below hb3)
    generalize hsets : (ss.map fun s => listN sp s s.length) = sets at *
    have hsl : sets.length = ss.length := by rw [← hsets, List.length_map]
    have HFIT : Hid (∀ q ∈ sets, FitI l.length ps q ∧ q.length ≤ 1099511627776) := Lib.hid (fun q hq => by
      rw [← hsets, List.mem_map] at hq
      obtain ⟨s0, hs0, rfl⟩ := hq
      exact HSO.out.fit s0 hs0)
    have HSS := Lib.hid hss
    have HGS := Lib.hid hgs
    have hmost := HSO.out.most
    have hbs : buildS l.length ps sp (some (ss, gs)) = goB l.length ps sets gs 0 ([], []) := by
      show goB l.length ps (ss.map fun s => listN sp s s.length) gs 0 ([], []) = _
      rw [hsets]
    have HBS := Lib.hid hbs
    generalize buildS l.length ps sp (some (ss, gs)) = br at *
    clear hb3 hss hgs hsets hbs x0 x1 x2 HX HG HET HRB
    go_wp2_with ((with_reducible refine gate_ (.alloc 25) rfl ?_); refine Hid.out ?_)
    refine Lib.hid ?_
    have HT0 : Hid (Tx w3 (w3.alloc (.cells #[.slice none 0 0, .slice none 0 0] 25)) w3.heap.size (.slice none 0 0) (.slice none 0 0) [] [] [] [] [] []) := Lib.hid ⟨below_alloc (Below.refl _ _) _, blk_new w3 _, Nat.le_refl _, Kd.R_nil _ _ _ _ _, Rows.empty, Kd.R_nil _ _ _ _ _, Rows.empty⟩
    go_wp2_with fail
    generalize w3.heap.size = tb at *
    go_loopw [27] (fun v w' => ∃ (i : Nat) (Av : Option Addr) (nv cv : Nat) (Bv : Option Addr) (mv dv : Nat) (hA hG : List HD) (rows : List (List S93)) (gos : List (List Int)), v = .int .i64 (i : Int) ∧ i ≤ ss.length ∧ rows.length = i ∧ gos.length = i ∧ Hid (goB l.length ps (sets.drop i) gs i (rows, gos) = br) ∧ Hid (Tx w3 w' tb (.slice Av nv cv) (.slice Bv mv dv) hA hG (hA.map hdr) (hG.map hdr) rows gos)) (fun v _ => ss.length - (intOf v).toNat)
    case atStart => exact ⟨0, none, 0, 0, none, 0, 0, [], [], [], [], rfl, Nat.zero_le _, rfl, rfl, by rw [List.drop_zero]; exact Lib.hid HBS.out.symm, HT0⟩
    case round =>
      clear HT0 HBS
      obtain ⟨i, Av, nv, cv, Bv, mv, dv, hA, hG, rows, gos, rfl, hi, hrl, hgol, HGB, HT⟩ := hrel
      by_cases hil : i < ss.length
      · obtain ⟨st0, hst0⟩ : ∃ x, sets[i]? = some x := ⟨_, List.getElem?_eq_getElem (by omega)⟩
        obtain ⟨g0, hg0⟩ : ∃ x, gs[i]? = some x := ⟨_, List.getElem?_eq_getElem (by have := HSO.out.len; omega)⟩
        obtain ⟨ads, A5, c5, rfl, s1, -, hC5⟩ := at_Sl (Kd.C_below HSS.out HT.out.below) hst0
        obtain ⟨adg, A6, c6, rfl, g13, hc6, hC6⟩ := at_Sl HGS.out hg0
        have g1 := pw_cell_below HT.out.below g13
        have HG13 := Lib.hid g13
        have hfi := HFIT.out st0 (List.mem_of_getElem? hst0)
        have hgr := HSO.out.row g0 (List.mem_of_getElem? hg0)
        have x0 := blk_cell (blk_below HX3.out HT.out.below) 0
        have x1 := blk_cell (blk_below HX3.out HT.out.below) 1
        have x2 := blk_cell (blk_below HX3.out HT.out.below) 2
        simp at x0 x1 x2
        have hib : decide ((i : Int) < (ss.length : Int)) = true := decide_eq_true (by omega)
        have hi0 : (0 : Int) ≤ (i : Int) := Int.natCast_nonneg _
        have hi1 : (i : Int) < (ss.length : Int) := by omega
        have hi1g : (i : Int) < (gs.length : Int) := by have := HSO.out.len; omega
        have hiw : IntKind.i64.wrap ((i : Int) + 1) = (i : Int) + 1 := IntWalk.i64_in _ (by omega)
        have hi2 : i + 1 ≤ ss.length := hil
        have hme : ss.length - (i + 1) < ss.length - i := by omega
        have HROW := Lib.hid (row_any A c l B d m C e ps wr.drew (HG3.out.below HT.out.drew.below) h64 HPL.out i A5 c5 st0 (Kd.C_drew hC5) hfi.2 hfi.1 A6 c6 g0 (Kd.C_below hC6 HT.out.drew.below) (by omega) (HET3.out.below HT.out.drew.below))
        have HC6 := Lib.hid hC6
        have hgb := HGB.out
        rw [drop_of_get hst0, goB_step _ _ _ _ _ _ _ _ hg0] at hgb
        have HGB1 := Lib.hid hgb
        generalize rowS l.length ps st0 g0 = rs at *
        have HGR := Lib.hid hgr
        have hgle : l.length ≤ g0.length := by omega
        have hg20 : g0.length ≤ 192 := by omega
        clear hfi hC5 hC6 hst0 hg0 hgb HGB hgr g13
        go_wp2_with fail
        refine start_ (n := 13) (S := fun w' => w'.cell? ⟨gb, 0, none⟩ = some (.slice A l.length c) ∧ w'.cell? ⟨gb, 1, none⟩ = some (.slice B m.length d) ∧ w'.cell? ⟨gb, 2, none⟩ = some (.slice C ps.length e) ∧ w'.cell? (adg.add i) = some (.slice A6 g0.length c6)) (ds := [7]) #[false, false, false, false, false, false, false, false, false, false, false, false, false] (by kernel_rfl) rfl rfl ⟨x0, x1, x2, g1⟩ (fun hHeld => ?_)
        refine pure_ (i := 1) (N := some 34) (v := ?_) (a' := ?_) #[false, true, false, false, false, false, false, false, false, false, false, false, false] rfl rfl (by kernel_rfl) (fun _ _ _ h => h) (Or.inl ⟨by rfl, ?_⟩) ?_ ?_
        rotate_left
        · intro w'
          go_simp
          with_reducible rfl
        rotate_left
        · simp only [nm_]
          rfl
        refine pure_ (i := 2) (N := some 35) (v := ?_) (a' := ?_) #[false, true, true, false, false, false, false, false, false, false, false, false, false] rfl rfl (by kernel_rfl) (fun _ _ _ h => h) (Or.inl ⟨by rfl, ?_⟩) ?_ ?_
        rotate_left
        · intro w'
          go_simp
          with_reducible rfl
        rotate_left
        · simp only [nm_]
          rfl
        refine pure_ (i := 3) (N := some 36) (v := ?_) (a' := ?_) #[false, true, true, true, false, false, false, false, false, false, false, false, false] rfl rfl (by kernel_rfl) (fun _ _ _ h => h) (Or.inl ⟨by rfl, ?_⟩) ?_ ?_
        rotate_left
        · intro w'
          go_simp
          with_reducible rfl
        rotate_left
        · simp only [nm_]
          rfl
        refine pure_ (i := 4) (N := some 37) (v := ?_) (a' := ?_) #[false, true, true, true, true, false, false, false, false, false, false, false, false] rfl rfl (by kernel_rfl) (fun _ _ _ h => h) (Or.inl ⟨by rfl, ?_⟩) ?_ ?_
        rotate_left
        · intro w'
          go_simp
          with_reducible rfl
        rotate_left
        · simp only [nm_]
          rfl
        refine pure_ (i := 5) (N := some 38) (v := ?_) (a' := ?_) #[false, true, true, true, true, true, false, false, false, false, false, false, false] rfl rfl (by kernel_rfl) (fun _ _ _ h => h) (Or.inl ⟨by rfl, ?_⟩) ?_ ?_
        rotate_left
        · intro w'
          go_simp
          with_reducible rfl
        rotate_left
        · simp only [nm_]
          rfl
        refine take_ (i := 0) (N := some 33) (v := ?_) (a' := ?_) #[true, true, true, true, true, true, false, false, false, false, false, false, false] rfl rfl (by kernel_rfl) (fun _ _ _ h => h) (Or.inl ⟨by rfl, ?_⟩) hHeld ?_ ?_
        rotate_left
        · rintro w' ⟨s0, s1, s2, s3⟩
          go_simp
          with_reducible rfl
        rotate_left
        · simp only [nm_]
          rfl
        refine take_ (i := 6) (N := some 39) (v := ?_) (a' := ?_) #[true, true, true, true, true, true, true, false, false, false, false, false, false] rfl rfl (by kernel_rfl) (fun _ _ _ h => h) (Or.inl ⟨by rfl, ?_⟩) hHeld ?_ ?_
        rotate_left
        · rintro w' ⟨s0, s1, s2, s3⟩
          go_simp
          with_reducible rfl
        rotate_left
        · simp only [nm_]
          rfl
        refine last_ (i := 7) (N := some 40) #[true, true, true, true, true, true, true, true, false, false, false, false, false] rfl rfl (by kernel_rfl) (by decide) (fun K hK => ?_)
        refine goes_ Tryd.func41 (by kernel_rfl) rfl #[.agg #[.slice A l.length c, .slice B m.length d, .slice C ps.length e], .int .i64 (i : Int), .slice A5 st0.length c5, .slice A6 g0.length c6] (by rfl) rfl rfl (by simp only [List.map_toArray, List.map_cons, List.map_nil]; rfl) ?_
        with_reducible refine (HROW.out).mono ?_
        rintro e4 w4 ⟨hb4, og, oc, ev, rfl, hrow, hbad⟩
        refine ⟨_, rfl, ?_⟩
        have HB4 := Lib.hid hb4
        have HROW4 := Lib.hid hrow
        have HBAD := Lib.hid hbad
        clear hb4 hrow hbad
        refine hK.out _ _ ?_
        clear hK K
        refine norm_ (a' := ?_) ?_ ?_
        rotate_left
        · show Act.put _ (some 40) _ = _
          simp only [nm_]
          rfl
        refine pure_ (i := 8) (N := some 32) (v := ?_) (a' := ?_) #[true, true, true, true, true, true, true, true, true, false, false, false, false] rfl rfl (by kernel_rfl) (fun _ _ _ h => h) (Or.inl ⟨by rfl, ?_⟩) ?_ ?_
        rotate_left
        · intro w'
          go_simp
          with_reducible rfl
        rotate_left
        · simp only [nm_]
          rfl
        refine pure_ (i := 9) (N := some 41) (v := ?_) (a' := ?_) #[true, true, true, true, true, true, true, true, true, true, false, false, false] rfl rfl (by kernel_rfl) (fun _ _ _ h => h) (Or.inl ⟨by rfl, ?_⟩) ?_ ?_
        rotate_left
        · intro w'
          go_simp
          with_reducible rfl
        rotate_left
        · simp only [nm_]
          rfl
        refine pure_ (i := 10) (N := some 42) (v := ?_) (a' := ?_) #[true, true, true, true, true, true, true, true, true, true, true, false, false] rfl rfl (by kernel_rfl) (fun _ _ _ h => h) (Or.inl ⟨by rfl, ?_⟩) ?_ ?_
        rotate_left
        · intro w'
          go_simp
          with_reducible rfl
        rotate_left
        · simp only [nm_]
          rfl
        refine pure_ (i := 11) (N := some 12) (v := ?_) (a' := ?_) #[true, true, true, true, true, true, true, true, true, true, true, true, false] rfl rfl (by kernel_rfl) (fun _ _ _ h => h) (Or.inl ⟨by rfl, ?_⟩) ?_ ?_
        rotate_left
        · intro w'
          go_simp
          with_reducible rfl
        rotate_left
        · simp only [nm_]
          rfl
        refine pure_ (i := 12) (N := some 13) (v := ?_) (a' := ?_) #[true, true, true, true, true, true, true, true, true, true, true, true, true] rfl rfl (by kernel_rfl) (fun _ _ _ h => h) (Or.inl ⟨by rfl, ?_⟩) ?_ ?_
        rotate_left
        · intro w'
          go_simp
          with_reducible rfl
        rotate_left
        · simp only [nm_]
          rfl
        refine done_ (by kernel_rfl) ?_
        clear hHeld HROW
        obtain ⟨row, bo⟩ := rs
        have HT4 := Lib.hid (HT.out.drew.bel HB4.out)
        have HT4n := Lib.hid (HT4.out.newA (v := .slice (some ⟨og, 0, none⟩) l.length oc) HROW4.out HT.out.drew.below.size (HT.out.drew.ra.cut (Nat.le_refl _) (fun q hq => Kd.R_base HROW4.out q hq)))
        have g1' := pw_cell_below HB4.out g1
        have x0' := pw_cell_below HB4.out x0
        clear g1 x0 x1 x2 s1 HROW4 HT
        cases bo with
        | none =>
          have hev : ev = .nilIface := HBAD.out
          subst hev
          go_wp2_with (go_at_call 33; refine (ErrsC.as_nil (.iface 123 (.pointer (some ⟨w4.heap.size, 0, none⟩))) _).mono ?_; rintro e5 w5 ⟨rfl, rfl⟩; refine Hid.out ?_)
          refine Lib.hid ?_
          have HT5 := Lib.hid (HT4n.out.alloc (.cells #[.pointer none] 122))
          have g1 := pw_cell_below (below_alloc (Below.refl w4.heap.size w4) (.cells #[.pointer none] 122)) g1'
          have x0 := pw_cell_below (below_alloc (Below.refl w4.heap.size w4) (.cells #[.pointer none] 122)) x0'
          clear HT4 HT4n g1' x0' HB4 HBAD
          generalize w4.heap.size = cbk at *
          generalize w4.alloc (.cells #[.pointer none] 122) = W5 at *
          have t0 := blk_cell HT5.out.tbk 0
          simp at t0
          have hbl := HT5.out.ra.len
          simp at hbl
          have hgll := HT5.out.rg.len
          simp at hgll
          have hbo : (hA.length + 1) * 24 ≤ 140737488355328 := by omega
          have hbo3 : (hG.length + 1) * 24 ≤ 140737488355328 := by omega
          go_wp2_with ((with_reducible refine gate_builtin (b := .append) (xs := #[.tmp 56, .tmp 58]) rfl ?_); refine Hid.out ?_)
          refine Lib.hid ?_
          at_builtin
          refine Kd.R_append kH (w0 := w3) (W := W5) w3.heap.size rfl (.tmp 56) (.tmp 58) 22 90 (.slice none 0 0) 24 rfl Tryd.underlying22 info90 rfl (by decide) (by decide) (.slice Av nv cv) hA (some ⟨og, 0, none⟩, l.length, oc) [.slice (some ⟨og, 0, none⟩) l.length oc] tru (fun _ => False) rfl rfl rfl (fun _ hk => hk.elim) (fun _ _ => trivial) HT5.out.A HT5.out.below HT5.out.below.size hbo ?_
          intro v9 ws ho9 hb9 hg9 hat9
          obtain ⟨h9, hT9⟩ := HT5.out.appA ho9 hg9 hb9
          have HT6 := Lib.hid hT9
          obtain ⟨A9, c9, hv9, -, -⟩ := Kd.R_reads ho9
          generalize hn9 : (hA ++ [((some ⟨og, 0, none⟩, l.length, oc) : HD)]).length = n9 at hv9
          subst hv9
          have t9 := blk_cell h9 0
          have t9f := blk_frozen h9 0
          simp at t9
          clear ho9 hb9 hg9 hat9 hT9 hn9 HT5 t0 g1 x0
          go_wp2_with fail
          clear t9 t9f h9
          generalize ws.setCell ⟨tb, 0, none⟩ (.slice A9 n9 c9) = W6 at *
          obtain ⟨i0, hi0', hi0s⟩ := Option.map_eq_some_iff.1 info3
          simp only [Prod.mk.injEq] at hi0s
          have hcut := cut_from (P := Tryd.prog) 95 3 .i64 Tryd.underlying95 hi0' 1 hi0s.2.1 A6 g0.length c6 (l.length : Int) (Int.natCast_nonneg _) (by omega)
          have hdr := Kd.C_drop (m := l.length) (c := c6) (Kd.C_below HC6.out HT6.out.drew.below) (by omega) hc6
          rw [Int.toNat_natCast, ← List.length_drop] at hcut
          rw [show l.length * kInt.sz = l.length * 1 from rfl] at hdr
          generalize (if c6 = l.length then A6 else A6.map (·.add (l.length * 1))) = Xc at hcut hdr
          generalize hdn : (g0.drop l.length).length = dn at hcut hdr
          have HDR := Lib.hid hdr
          have hbo2 : (([] : List Int).length + dn) * 8 ≤ 140737488355328 := by rw [← hdn, List.length_drop]; simp; omega
          clear hdn
          clear hdr hi0' hi0s
          have g1 := pw_cell_below HT6.out.below HG13.out
          have x0 := blk_cell (blk_below HX3.out HT6.out.below) 0
          simp at x0
          refine start_ (n := 15) (S := fun w' => w'.cell? ⟨tb, 1, none⟩ = some (.slice Bv mv dv) ∧ w'.cell? (adg.add i) = some (.slice A6 g0.length c6) ∧ w'.cell? ⟨gb, 0, none⟩ = some (.slice A l.length c)) (ds := [12, 14]) #[false, false, false, false, false, false, false, false, false, false, false, false, false, false, false] (by kernel_rfl) rfl rfl ⟨(blk_cell HT6.out.drew.tbk 1), (pw_cell_below (Below.refl _ _) g1), (pw_cell_below (Below.refl _ _) x0)⟩ (fun hHeld => ?_)
          refine pure_ (i := 0) (N := some 61) (v := ?_) (a' := ?_) #[true, false, false, false, false, false, false, false, false, false, false, false, false, false, false] rfl rfl (by kernel_rfl) (fun _ _ _ h => h) (Or.inl ⟨by rfl, ?_⟩) ?_ ?_
          rotate_left
          · intro w'
            go_simp
            with_reducible rfl
          rotate_left
          · simp only [nm_]
            rfl
          refine pure_ (i := 2) (N := some 63) (v := ?_) (a' := ?_) #[true, false, true, false, false, false, false, false, false, false, false, false, false, false, false] rfl rfl (by kernel_rfl) (fun _ _ _ h => h) (Or.inl ⟨by rfl, ?_⟩) ?_ ?_
          rotate_left
          · intro w'
            go_simp
            with_reducible rfl
          rotate_left
          · simp only [nm_]
            rfl
          refine pure_ (i := 3) (N := some 64) (v := ?_) (a' := ?_) #[true, false, true, true, false, false, false, false, false, false, false, false, false, false, false] rfl rfl (by kernel_rfl) (fun _ _ _ h => h) (Or.inl ⟨by rfl, ?_⟩) ?_ ?_
          rotate_left
          · intro w'
            go_simp
            with_reducible rfl
          rotate_left
          · simp only [nm_]
            rfl
          refine pure_ (i := 4) (N := some 65) (v := ?_) (a' := ?_) #[true, false, true, true, true, false, false, false, false, false, false, false, false, false, false] rfl rfl (by kernel_rfl) (fun _ _ _ h => h) (Or.inl ⟨by rfl, ?_⟩) ?_ ?_
          rotate_left
          · intro w'
            go_simp
            with_reducible rfl
          rotate_left
          · simp only [nm_]
            rfl
          refine pure_ (i := 6) (N := some 67) (v := ?_) (a' := ?_) #[true, false, true, true, true, false, true, false, false, false, false, false, false, false, false] rfl rfl (by kernel_rfl) (fun _ _ _ h => h) (Or.inl ⟨by rfl, ?_⟩) ?_ ?_
          rotate_left
          · intro w'
            go_simp
            with_reducible rfl
          rotate_left
          · simp only [nm_]
            rfl
          refine take_ (i := 1) (N := some 62) (v := ?_) (a' := ?_) #[true, true, true, true, true, false, true, false, false, false, false, false, false, false, false] rfl rfl (by kernel_rfl) (fun _ _ _ h => h) (Or.inl ⟨by rfl, ?_⟩) hHeld ?_ ?_
          rotate_left
          · rintro w' ⟨s0, s1, s2⟩
            go_simp
            with_reducible rfl
          rotate_left
          · simp only [nm_]
            rfl
          refine take_ (i := 5) (N := some 66) (v := ?_) (a' := ?_) #[true, true, true, true, true, true, true, false, false, false, false, false, false, false, false] rfl rfl (by kernel_rfl) (fun _ _ _ h => h) (Or.inl ⟨by rfl, ?_⟩) hHeld ?_ ?_
          rotate_left
          · rintro w' ⟨s0, s1, s2⟩
            go_simp
            with_reducible rfl
          rotate_left
          · simp only [nm_]
            rfl
          refine take_ (i := 7) (N := some 68) (v := ?_) (a' := ?_) #[true, true, true, true, true, true, true, true, false, false, false, false, false, false, false] rfl rfl (by kernel_rfl) (fun _ _ _ h => h) (Or.inl ⟨by rfl, ?_⟩) hHeld ?_ ?_
          rotate_left
          · rintro w' ⟨s0, s1, s2⟩
            go_simp
            with_reducible rfl
          rotate_left
          · simp only [nm_]
            rfl
          refine pure_ (i := 8) (N := some 69) (v := ?_) (a' := ?_) #[true, true, true, true, true, true, true, true, true, false, false, false, false, false, false] rfl rfl (by kernel_rfl) (fun _ _ _ h => h) (Or.inl ⟨by rfl, ?_⟩) ?_ ?_
          rotate_left
          · intro w'
            go_simp
            with_reducible rfl
          rotate_left
          · simp only [nm_]
            rfl
          refine pure_ (i := 9) (N := some 70) (v := ?_) (a' := ?_) #[true, true, true, true, true, true, true, true, true, true, false, false, false, false, false] rfl rfl (by kernel_rfl) (fun _ _ _ h => h) (Or.inl ⟨by rfl, ?_⟩) ?_ ?_
          rotate_left
          · intro w'
            go_simp
            with_reducible rfl
          rotate_left
          · simp only [nm_]
            rfl
          refine one_ (i := 10) (N := some 71) #[true, true, true, true, true, true, true, true, true, true, true, false, false, false, false] rfl rfl (by kernel_rfl) (by decide) (fun K hK => ?_)
          refine Kd.R_append_rows_step kInt (w0 := w3) (W := W6.drew) w3.heap.size (by rfl) (.const (.slice none 0 0)) (.tmp 70) 95 3 (.int .i64 0) 8 rfl Tryd.underlying95 info3 rfl (by decide) (by decide) (.slice none 0 0) [] (g0.drop l.length) Xc dn (c6 - l.length) tru (fun _ => False) rfl rfl (Kd.R_nil _ _ _ _ _) HDR.out (fun _ _ h => h) (fun _ h => h.elim) (fun _ _ => trivial) HT6.out.drew.below HT6.out.drew.below.size hbo2 ?_
          intro v7 w7 ho7 hb7 hg7 hat7
          rw [List.nil_append] at ho7
          have HB67 : Hid (Below W6.drew.heap.size W6.drew w7) := Lib.hid (pw_below_grown (Below.refl W6.drew.heap.size W6.drew) none (Nat.le_refl _) hg7 (fun k h => by cases h))
          have hfr7 : ∀ q, v7.ownBlock = some q → W6.drew.heap.size ≤ q := fun q hq => by
            rcases hat7 with h | ⟨b, h, hle⟩
            · rw [h] at hq; cases hq
            · rw [h] at hq; cases hq; exact hle
          have HT7 := Lib.hid ((HT6.out.drew.bel HB67.out).newG (Kd.R_mono ho7 (fun _ _ => trivial)) (Nat.le_refl _) (HT6.out.drew.rg.cut (Nat.le_refl _) hfr7))
          obtain ⟨A7, c7, hv7, -, -⟩ := Kd.R_reads ho7
          generalize hn7 : (g0.drop l.length).length = n7 at hv7
          subst hv7
          clear hn7 ho7 hb7 hg7 hat7 hfr7
          refine hK.out _ _ ⟨(blk_cell HT7.out.tbk 1), (pw_cell_below HB67.out g1), (pw_cell_below HB67.out x0)⟩ (fun hHeld => ?_)
          clear hK K
          refine norm_ (a' := ?_) ?_ ?_
          rotate_left
          · show Act.put _ (some 71) _ = _
            simp only [nm_]
            rfl
          refine one_ (i := 11) (N := some 72) #[true, true, true, true, true, true, true, true, true, true, true, true, false, false, false] rfl rfl (by kernel_rfl) (by decide) (fun K hK => ?_)
          refine value_ (w1 := ?_) (v := ?_) (by rfl) rfl ?_ ?_
          rotate_left 2
          · go_simp
            constructor
            · rfl
            · rfl
          refine hK.out _ _ ⟨(blk_cell (HT7.out.alloc _).tbk 1), (pw_cell_below (below_alloc HB67.out _) g1), (pw_cell_below (below_alloc HB67.out _) x0)⟩ (fun hHeld => ?_)
          clear hK K
          refine norm_ (a' := ?_) ?_ ?_
          rotate_left
          · show Act.put _ (some 72) _ = _
            simp only [nm_]
            rfl
          refine last_ (i := 12) (N := some 73) #[true, true, true, true, true, true, true, true, true, true, true, true, true, false, false] rfl rfl (by kernel_rfl) (by decide) (fun K hK => ?_)
          refine Kd.R_append_step kH (w0 := w3) (W := w7) w3.heap.size (by rfl) (.tmp 62) (.tmp 72) 23 95 (.slice none 0 0) 24 rfl Tryd.underlying23 info95 rfl (by decide) (by decide) (.slice Bv mv dv) hG (A7, n7, c7) [.slice A7 n7 c7] tru (fun _ => False) rfl rfl rfl (fun _ hk => hk.elim) (fun _ _ => trivial) HT7.out.G HT7.out.below HT7.out.below.size hbo3 ?_
          intro v8 w8 ho8 hb8 hg8 hat8
          obtain ⟨h8, hT8⟩ := HT7.out.appG ho8 hg8 hb8
          have HT8 := Lib.hid hT8
          obtain ⟨A8, c8, hv8, -, -⟩ := Kd.R_reads ho8
          generalize hn8 : (hG ++ [((A7, n7, c7) : HD)]).length = n8 at hv8
          subst hv8
          have t8 := blk_cell h8 1
          have t8f := blk_frozen h8 1
          simp at t8
          clear hn8 ho8 hb8 hg8 hat8 hT8 h8
          refine hK.out _ _ ?_
          clear hK K
          refine norm_ (a' := ?_) ?_ ?_
          rotate_left
          · show Act.put _ (some 73) _ = _
            simp only [nm_]
            rfl
          refine pure_ (i := 13) (N := some 74) (v := ?_) (a' := ?_) #[true, true, true, true, true, true, true, true, true, true, true, true, true, true, false] rfl rfl (by kernel_rfl) (fun _ _ _ h => h) (Or.inl ⟨by rfl, ?_⟩) ?_ ?_
          rotate_left
          · intro w'
            go_simp
            with_reducible rfl
          rotate_left
          · simp only [nm_]
            rfl
          refine last_ (i := 14) (N := none) #[true, true, true, true, true, true, true, true, true, true, true, true, true, true, true] rfl rfl (by kernel_rfl) (by decide) (fun K hK => ?_)
          refine skip_ (w1 := ?_) (by rfl) rfl ?_ ?_
          rotate_left
          · go_simp
            rfl
          refine hK.out _ _ ?_
          clear hK K
          refine done_ (by kernel_rfl) ?_
          clear hHeld
          have hm1 : hA.map hdr ++ [.slice (some ⟨og, 0, none⟩) l.length oc] = (hA ++ [((some ⟨og, 0, none⟩, l.length, oc) : HD)]).map hdr := by rw [List.map_append]; rfl
          have hm2 : hG.map hdr ++ [.slice A7 n7 c7] = (hG ++ [((A7, n7, c7) : HD)]).map hdr := by rw [List.map_append]; rfl
          have HT9 := HT8.out
          rw [hm1, hm2] at HT9
          have hrl2 : (rows ++ [row]).length = i + 1 := by rw [List.length_append, hrl]; rfl
          have hgol2 : (gos ++ [g0.drop l.length]).length = i + 1 := by rw [List.length_append, hgol]; rfl
          have HRL2 := Lib.hid hrl2
          have HGOL2 := Lib.hid hgol2
          have HT10 := Lib.hid HT9
          clear hm1 hm2 HT9 hrl2 hgol2 hcut HT8 HT6 g1 x0 t8 t8f HT7 HDR
          go_wp2_with fail
          go_roundw
          case rel => first | exact ⟨i + 1, A9, n9, c9, A8, n8, c8, _, _, rows ++ [row], gos ++ [g0.drop l.length], by rw [Int.natCast_add]; rfl, hi2, HRL2.out, HGOL2.out, HGB1, HT10⟩ | ((repeat apply Exists.intro); exact ⟨⟨i + 1, A9, n9, c9, A8, n8, c8, _, _, rows ++ [row], gos ++ [g0.drop l.length], by rw [Int.natCast_add] <;> rfl, hi2, HRL2.out, HGOL2.out, HGB1, HT10⟩, rfl⟩)
          case measure => exact hme
        | some cc =>
          obtain ⟨eb, hge, rfl, he⟩ := HBAD.out
          have HC := Lib.hid (blk_new w4 (.cells #[.pointer none] 122))
          have HE5 := Lib.hid (blk_alloc he (.cells #[.pointer none] 122))
          have hb5 := below_alloc (Below.refl w4.heap.size w4) (.cells #[.pointer none] 122)
          have HR5 := Lib.hid (blk_below (blk_below HR3.out HT4.out.below) hb5)
          have HB5 := Lib.hid (below_step HT4.out.below hb5)
          have HET5 := Lib.hid (HET3.out.below HB5.out)
          have hc3 : w3.heap.size ≤ w4.heap.size := HT4.out.below.size
          have hge2 : gb ≤ w4.heap.size + 1 := by have := HB3.out.size; have := HB0.out.size; omega
          have hbr := HGB1.out
          clear hge he hb5 HT4 HT4n g1' x0' HB4 HBAD
          generalize hcbk : w4.heap.size = cbk at *
          generalize hW5 : w4.alloc (.cells #[.pointer none] 122) = W5 at *
          have h5s : cbk ≤ W5.heap.size := by rw [← hW5, World.size_alloc, hcbk]; omega
          go_wp2_with (go_at_call 33; refine (as_hitC eb cbk _ HET5.out HC.out).mono ?_; rintro e5 w5 ⟨rfl, hv7, hvk, hvb⟩; refine Hid.out ?_)
          refine Lib.hid ?_
          have HB6 := Lib.hid (hvb HB5.out hc3 HB5.out.size)
          have HCV := Lib.hid hv7
          have HEV := Lib.hid (hvk.blk HE5.out (blk_ne HE5.out HC.out (by decide)) (by simp))
          have HRV := Lib.hid (hvk.blk HR5.out (blk_ne HR5.out HC.out (by decide)) (by simp))
          have r0 := blk_cell HRV.out 0
          have r0f := blk_frozen HRV.out 0
          have r1 := blk_cell HRV.out 1
          have r1f := blk_frozen HRV.out 1
          simp at r0 r1
          clear hv7 hvk hvb
          go_wp2_with fail
          refine start_ (n := 13) (S := fun w' => w'.cell? ⟨cbk, 0, none⟩ = some (.pointer (some ⟨eb, 0, none⟩)) ∧ w'.cell? ⟨eb, 0, none⟩ = some (.int .i64 (i : Int)) ∧ w'.cell? ⟨eb, 1, none⟩ = some (.int .i64 (cc : Int))) (ds := []) #[false, false, false, false, false, false, false, false, false, false, false, false, false] (by kernel_rfl) rfl rfl ⟨(blk_cell (blk_drew HCV.out) 0), (blk_cell (blk_drew HEV.out) 0), (blk_cell (blk_drew HEV.out) 1)⟩ (fun hHeld => ?_)
          refine pure_ (i := 0) (N := some 46) (v := ?_) (a' := ?_) #[true, false, false, false, false, false, false, false, false, false, false, false, false] rfl rfl (by kernel_rfl) (fun _ _ _ h => h) (Or.inl ⟨by rfl, ?_⟩) ?_ ?_
          rotate_left
          · intro w'
            go_simp
            with_reducible rfl
          rotate_left
          · simp only [nm_]
            rfl
          refine take_ (i := 1) (N := some 47) (v := ?_) (a' := ?_) #[true, true, false, false, false, false, false, false, false, false, false, false, false] rfl rfl (by kernel_rfl) (fun _ _ _ h => h) (Or.inl ⟨by rfl, ?_⟩) hHeld ?_ ?_
          rotate_left
          · rintro w' ⟨s0, s1, s2⟩
            go_simp
            with_reducible rfl
          rotate_left
          · simp only [nm_]
            rfl
          refine pure_ (i := 2) (N := some 48) (v := ?_) (a' := ?_) #[true, true, true, false, false, false, false, false, false, false, false, false, false] rfl rfl (by kernel_rfl) (fun _ _ _ h => h) (Or.inl ⟨by rfl, ?_⟩) ?_ ?_
          rotate_left
          · intro w'
            go_simp
            with_reducible rfl
          rotate_left
          · simp only [nm_]
            rfl
          refine pure_ (i := 3) (N := some 49) (v := ?_) (a' := ?_) #[true, true, true, true, false, false, false, false, false, false, false, false, false] rfl rfl (by kernel_rfl) (fun _ _ _ h => h) (Or.inl ⟨by rfl, ?_⟩) ?_ ?_
          rotate_left
          · intro w'
            go_simp
            with_reducible rfl
          rotate_left
          · simp only [nm_]
            rfl
          refine take_ (i := 4) (N := some 50) (v := ?_) (a' := ?_) #[true, true, true, true, true, false, false, false, false, false, false, false, false] rfl rfl (by kernel_rfl) (fun _ _ _ h => h) (Or.inl ⟨by rfl, ?_⟩) hHeld ?_ ?_
          rotate_left
          · rintro w' ⟨s0, s1, s2⟩
            go_simp
            with_reducible rfl
          rotate_left
          · simp only [nm_]
            rfl
          refine take_ (i := 5) (N := some 51) (v := ?_) (a' := ?_) #[true, true, true, true, true, true, false, false, false, false, false, false, false] rfl rfl (by kernel_rfl) (fun _ _ _ h => h) (Or.inl ⟨by rfl, ?_⟩) hHeld ?_ ?_
          rotate_left
          · rintro w' ⟨s0, s1, s2⟩
            go_simp
            with_reducible rfl
          rotate_left
          · simp only [nm_]
            rfl
          refine pure_ (i := 6) (N := some 52) (v := ?_) (a' := ?_) #[true, true, true, true, true, true, true, false, false, false, false, false, false] rfl rfl (by kernel_rfl) (fun _ _ _ h => h) (Or.inl ⟨by rfl, ?_⟩) ?_ ?_
          rotate_left
          · intro w'
            go_simp
            with_reducible rfl
          rotate_left
          · simp only [nm_]
            rfl
          refine pure_ (i := 7) (N := some 53) (v := ?_) (a' := ?_) #[true, true, true, true, true, true, true, true, false, false, false, false, false] rfl rfl (by kernel_rfl) (fun _ _ _ h => h) (Or.inl ⟨by rfl, ?_⟩) ?_ ?_
          rotate_left
          · intro w'
            go_simp
            with_reducible rfl
          rotate_left
          · simp only [nm_]
            rfl
          refine take_ (i := 8) (N := some 54) (v := ?_) (a' := ?_) #[true, true, true, true, true, true, true, true, true, false, false, false, false] rfl rfl (by kernel_rfl) (fun _ _ _ h => h) (Or.inl ⟨by rfl, ?_⟩) hHeld ?_ ?_
          rotate_left
          · rintro w' ⟨s0, s1, s2⟩
            go_simp
            with_reducible rfl
          rotate_left
          · simp only [nm_]
            rfl
          refine one_ (i := 9) (N := none) #[true, true, true, true, true, true, true, true, true, true, false, false, false] rfl rfl (by kernel_rfl) (by decide) (fun K hK => ?_)
          refine skip_ (w1 := ?_) (by rfl) rfl ?_ ?_
          rotate_left
          · go_simp
            rfl
          refine hK.out _ _ ⟨(blk_cell (blk_drew <| blk_far (p := ⟨rb, 1, none⟩) (blk_far (p := ⟨rb, 0, none⟩) HCV.out (blk_ne HCV.out HRV.out (by decide)) _) (blk_ne HCV.out HRV.out (by decide)) _) 0), (blk_cell (blk_drew <| blk_far (p := ⟨rb, 1, none⟩) (blk_far (p := ⟨rb, 0, none⟩) HEV.out (blk_ne HEV.out HRV.out (by decide)) _) (blk_ne HEV.out HRV.out (by decide)) _) 0), (blk_cell (blk_drew <| blk_far (p := ⟨rb, 1, none⟩) (blk_far (p := ⟨rb, 0, none⟩) HEV.out (blk_ne HEV.out HRV.out (by decide)) _) (blk_ne HEV.out HRV.out (by decide)) _) 1)⟩ (fun hHeld => ?_)
          clear hK K
          refine pure_ (i := 10) (N := some 3) (v := ?_) (a' := ?_) #[true, true, true, true, true, true, true, true, true, true, true, false, false] rfl rfl (by kernel_rfl) (fun _ _ _ h => h) (Or.inl ⟨by rfl, ?_⟩) ?_ ?_
          rotate_left
          · intro w'
            go_simp
            with_reducible rfl
          rotate_left
          · simp only [nm_]
            rfl
          refine pure_ (i := 11) (N := some 4) (v := ?_) (a' := ?_) #[true, true, true, true, true, true, true, true, true, true, true, true, false] rfl rfl (by kernel_rfl) (fun _ _ _ h => h) (Or.inl ⟨by rfl, ?_⟩) ?_ ?_
          rotate_left
          · intro w'
            go_simp
            with_reducible rfl
          rotate_left
          · simp only [nm_]
            rfl
          refine pure_ (i := 12) (N := some 5) (v := ?_) (a' := ?_) #[true, true, true, true, true, true, true, true, true, true, true, true, true] rfl rfl (by kernel_rfl) (fun _ _ _ h => h) (Or.inl ⟨by rfl, ?_⟩) ?_ ?_
          rotate_left
          · intro w'
            go_simp
            with_reducible rfl
          rotate_left
          · simp only [nm_]
            rfl
          refine done_ (by kernel_rfl) ?_
          go_wp2_with fail
          have h0 : Below w.heap.size w w2 := by rw [hgbe]; exact HB0.out
          have hbw : Below w.heap.size w w5 := below_step (below_step h0 HB3.out) HB6.out
          have hgr : w.heap.size ≤ rb := by omega
          refine bodyPost_ret (results_cttt rfl _ _ rb 25 #[.slice none 0 0, .slice none 0 0] (0, 0) _ rfl (blk_drew (blk_put (cs' := #[.slice none 0 0, .slice none 0 0]) (blk_put (cs' := #[.slice none 0 0, .slice none 0 0]) HRV.out 0 _ rfl) 1 _ rfl)) Tryd.underlying25 rfl (by kernel_rfl)) rfl ?_
          rw [← hbr]
          exact ⟨below_drew (below_set (below_set hbw hgr) hgr), rfl⟩
      · have hib : decide ((i : Int) < (ss.length : Int)) = false := decide_eq_false (by omega)
        have t0 := blk_cell HT.out.tbk 0
        have t1 := blk_cell HT.out.tbk 1
        have HRE := Lib.hid (blk_below HR3.out HT.out.below)
        have r0 := blk_cell HRE.out 0
        have r0f := blk_frozen HRE.out 0
        have r1 := blk_cell HRE.out 1
        have r1f := blk_frozen HRE.out 1
        simp at t0 t1 r0 r1
        go_wp2_with fail
        have hdz : sets.drop i = [] := List.drop_eq_nil_of_le (by omega)
        have hbr : br = .inl (rows, gos) := by rw [← HGB.out, hdz]; rfl
        refine bodyPost_ret (results_cttt rfl _ _ rb 25 #[.slice Av nv cv, .slice Bv mv dv] (0, 0) _ rfl (blk_put (cs' := #[.slice Av nv cv, .slice Bv mv dv]) (blk_put (cs' := #[.slice Av nv cv, .slice none 0 0]) HRE.out 0 _ rfl) 1 _ rfl) Tryd.underlying25 rfl (by kernel_rfl)) rfl ?_
        have h0 : Below w.heap.size w w2 := by rw [hgbe]; exact HB0.out
        have hbw : Below w.heap.size w wr := below_step (below_step h0 HB3.out) HT.out.below
        have hge : w.heap.size ≤ rb := by omega
        have hle : w.heap.size ≤ w3.heap.size := by have := HB3.out.size; have := HB0.out.size; omega
        have hbl := HT.out.ra.len
        rw [List.length_map] at hbl
        have hgll := HT.out.rg.len
        rw [List.length_map] at hgll
        obtain ⟨A', c', e1, -, -⟩ := Kd.R_reads HT.out.A
        obtain ⟨B', d', e2, -, -⟩ := Kd.R_reads HT.out.G
        injection e1 with _ e1 _
        injection e2 with _ e2 _
        rw [hbl] at e1
        rw [hgll] at e2
        subst e1
        subst e2
        rw [hbr]
        have hp1 := blk_put (cs' := #[.slice Av rows.length cv, .slice none 0 0]) HRE.out 0 (.slice Av rows.length cv) rfl
        refine ⟨below_set (below_set hbw hge) hge, Av, cv, Bv, dv, rfl, ⟨hA, hG, ?_, ?_, ?_, ?_⟩⟩
        · exact Kd.R_lower (Kd.R_set (Kd.R_set HT.out.A HRE.out (by decide) _ _) hp1 (by decide) _ _) hle
        · exact ((HT.out.ra.set HRE.out (by decide) _ _).set hp1 (by decide) _ _).lower hle
        · exact Kd.R_lower (Kd.R_set (Kd.R_set HT.out.G HRE.out (by decide) _ _) hp1 (by decide) _ _) hle
        · exact ((HT.out.rg.set HRE.out (by decide) _ _).set hp1 (by decide) _ _).lower hle
def gT : List S112 := [⟨⟨#[]⟩, false⟩, ⟨⟨#[97]⟩, false⟩]
def gM : List S115 := [⟨⟨#[115]⟩, 1⟩]
def rfA : S110 := ⟨1, ⟨#[]⟩, ⟨#[]⟩⟩
def rfB : S110 := ⟨2, ⟨#[]⟩, ⟨#[]⟩⟩
def gP : List S77 := [⟨-1, [rfB]⟩, ⟨0, [rfA, rfB]⟩, ⟨0, []⟩]
def sol : FV := (solveN 2 gP 5 (initF 2, noV)).getD ([], [])
def spA : List S230 := spotsS sol.1 sol.2 0 gP
def ssA : List (List Nat) := [[1, 0, 1, 0, 0, 1], [0, 0, 1, 1, 0, 1], [0, 1, 0, 0, 0, 0], [0, 0, 0, 0, 1, 0]]
def gsA : List (List Int) := [[-1, 1, 2], [-1, 1, 3], [-1, -1, -1], [-1, -1, -1]]
def rowsAw : List (List S93) := [[⟨2, 2⟩, ⟨1, 1⟩], [⟨2, 2⟩, ⟨1, 1⟩], [⟨3, 0⟩, ⟨0, 0⟩], [⟨2, 1⟩, ⟨0, 0⟩]]
def gosAw : List (List Int) := [[2], [3], [-1], [-1]]
set_option maxRecDepth 100000
theorem aw_sol : solveN gT.length gP 5 (initF gT.length, noV) = some sol := by decide +kernel
theorem aw_fit : Fit sol := ⟨by decide +kernel, by decide +kernel, by decide +kernel⟩
theorem aw_fair : Fair gT.length gM.length gP := ⟨by decide, by decide, by decide, by decide +kernel, by decide +kernel, by decide +kernel⟩
theorem aw_right : items_right.f 40 gT gM gP = some true := by decide +kernel
theorem aw_fitB : FitB gT.length gM.length spA (ofAll gM.length gP) := ⟨by decide +kernel, by decide +kernel, by decide +kernel, by decide +kernel, by decide +kernel⟩
theorem aw_nx : ∀ i, i + 1 = spA.length → (rdSp spA i).f2 < 0 := fun i hi => by
  have e : spA.length = 6 := by decide +kernel
  have h5 : i = 5 := by omega
  subst h5
  decide +kernel
theorem aw_sets : setsN gT.length gM.length spA (ofAll gM.length gP) 200 20 = some (some (ssA, gsA)) := by decide +kernel
theorem aw_build : buildS gT.length gP spA (some (ssA, gsA)) = .inl (rowsAw, gosAw) := by kernel_rfl
theorem aw_ok : ∀ ss gs, some (ssA, gsA) = some (ss, gs) → SetsOk gT.length gM.length gP spA ss gs := fun ss gs h => by
  cases h
  refine ⟨rfl, by decide, ?_, ?_⟩
  · have h1 : ∀ s ∈ ssA, (∀ x ∈ listN spA s s.length, 0 ≤ x.f0 ∧ x.f0 < gP.length ∧ 0 ≤ x.f2 ∧ x.f2 < gT.length) ∧ (listN spA s s.length).length ≤ 1099511627776 := by decide +kernel
    exact h1
  · decide +kernel
end Bld
end Go.Proofs.YtcijanmckhlpiaaDoor
