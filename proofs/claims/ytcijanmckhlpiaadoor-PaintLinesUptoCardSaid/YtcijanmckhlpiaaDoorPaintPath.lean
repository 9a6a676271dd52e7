import Derived.Test.YtcijanmckhlpiaaDoorPaintPlant
namespace Go.Proofs.YtcijanmckhlpiaaDoor
open Go.RowKit Go.Proofs.YtcijanmckhlpiaaDoorW.PrintWords Go.Proofs.YtcijanmckhlpiaaDoorW.PrintLast Go.Proofs.YtcijanmckhlpiaaDoorW.PrintMore Go.Proofs.YtcijanmckhlpiaaDoor.PPaintLines
set_option linter.unusedVariables false
set_option linter.unusedSimpArgs false
namespace Paint
theorem en_le (t : List S100) {i : Nat} (hi : i < t.length) : i + 1 ≤ en t i ∧ en t i ≤ t.length := by
  unfold en
  cases hp : pend t 1 i with
  | none => exact ⟨hi, Nat.le_refl _⟩
  | some b => have := pend_spec (Nat.le_of_lt hi) hp; exact ⟨this.1, this.2.1⟩
theorem endsL_get (l : List S100) (i : Nat) (h : i < l.length) : (endsL l)[i]? = some ((en l i : Nat) : Int) := by
  simp [endsL, h]
theorem endsL_rd (l : List S100) (i : Nat) (h : i < l.length) : rd (endsL l) (i : Int) = ((en l i : Nat) : Int) := by
  unfold rd; rw [Int.toNat_natCast, List.getD_eq_getElem?_getD, endsL_get l i h]; rfl
theorem pathS_out (t : List S100) (p : Int) (d : Nat) {i e : Nat} (h : ¬ i < e) : pathS t p d i e = [] := by
  cases d with
  | zero => rfl
  | succ d => unfold pathS; rw [dif_neg (fun q => h q.1)]
theorem pathS_in {t : List S100} {p : Int} {d i e : Nat} (h : i < e) (hl : i < t.length) (hc : (t[i]).f3 ≤ p ∧ p < (t[i]).f4) : pathS t p (d + 1) i e = (i : Int) :: pathS t p d (i + 1) (en t i) := by
  rw [pathS, dif_pos ⟨h, hl⟩, if_pos hc]
theorem pathS_next {t : List S100} {p : Int} {d i e : Nat} (h : i < e) (hl : i < t.length) (hc : ¬ ((t[i]).f3 ≤ p ∧ p < (t[i]).f4)) : pathS t p (d + 1) i e = pathS t p d (en t i) e := by
  rw [pathS, dif_pos ⟨h, hl⟩, if_neg hc]
set_option maxRecDepth 100000 in
set_option maxHeartbeats 4000000 in
theorem path_any (A : Option Addr) (c : Nat) (l : List S100) (a : Int) (w : World) (hr : k100.C w A l.length l) (hd : l.length ≤ c) (hz : l.length ≤ 1048576) (hkr : ∀ x ∈ l, x.f5 ≤ 9223372036854775807) :
    Calls Tryd.prog 62 #[.slice A l.length c, .int .i64 a] w fun e w' => ∃ Aq cq, e = .returned (.slice Aq (pathAll l a).length cq) ∧ (pathAll l a).length ≤ cq ∧ kI.C w' Aq (pathAll l a).length (pathAll l a) ∧ Below w.heap.size w w' := by
  have HR := Lib.hid hr
  have HPA : Hid (pathAll l a = if run 0 l = true then pathS l a l.length 0 l.length else []) := rfl
  generalize pathAll l a = q at *
  have HP := Lib.hid (plant_any A c l w hr hd hz hkr)
  clear hr hkr
  go_enter Tryd.func62, Tryd.ntmps62
  have tok : True := trivial
  go_wp2_with fail
  refine HP.out.mono ?_
  rintro e W1 ⟨Ap, np, cp, Ae, ce, E, rfl, hEl, hce, hEC, hEe, hbel⟩
  have HEC := Lib.hid hEC
  have HEE := Lib.hid hEe
  have HB1 := Lib.hid hbel
  clear hEC hEe hbel HP
  have HX := Lib.hid (blk_new W1 (.cells #[.slice A l.length c, .slice Ap np cp, .slice Ae l.length ce, .bool (run 0 l)] 221))
  have HB2 := Lib.hid (below_alloc HB1.out (.cells #[.slice A l.length c, .slice Ap np cp, .slice Ae l.length ce, .bool (run 0 l)] 221))
  have HEC2 : Hid (kI.C (W1.alloc (.cells #[.slice A l.length c, .slice Ap np cp, .slice Ae l.length ce, .bool (run 0 l)] 221)) Ae l.length E) := Kd.C_below HEC.out (below_alloc (Below.refl _ W1) _)
  cases hrun : run 0 l with
  | false =>
    rw [hrun] at HX HB2 HEC2
    have HQ := HPA
    rw [hrun, if_neg (by decide)] at HQ
    go_wp2_with fail
    go_ret
    have := HQ.out
    rw [show q = [] from this]
    exact ⟨none, 0, rfl, Nat.le_refl _, ⟨rfl, Nat.zero_le _, fun h => absurd h (Nat.lt_irrefl _)⟩, HB2.out⟩
  | true =>
    rw [hrun] at HX HB2 HEC2
    have HQ := HPA
    rw [hrun, if_pos rfl] at HQ
    have he := HEE.out hrun
    subst he
    go_wp2_with fail
    generalize hW2 : W1.alloc (.cells #[.slice A l.length c, .slice Ap np cp, .slice Ae l.length ce, .bool true] 221) = W2 at *
    clear hW2
    go_loopw [6, 7, 8] (fun v i e w' => ∃ (xs : List Int) (j k d : Nat), i = .int .i64 (j : Int) ∧ e = .int .i64 (k : Int) ∧ k ≤ l.length ∧ xs.length ≤ j ∧ j ≤ l.length ∧ l.length - j ≤ d ∧ Hid (Below W2.heap.size W2 w') ∧ Hid (kI.R 3 w' W2.heap.size tru v xs) ∧ Hid (xs ++ pathS l a d j k = q)) (fun _ i _ _ => l.length - (intOf i).toNat)
    case atStart => exact ⟨[], 0, l.length, l.length, rfl, rfl, Nat.le_refl _, Nat.le_refl _, Nat.zero_le _, Nat.le_refl _, Below.refl _ _, Kd.R_nil _ _ _ _ _, HQ.out.symm⟩
    case round =>
      obtain ⟨xs, j, k, d, rfl, rfl, hk, hxj, hj, hjd, HW, HO, HL⟩ := hrel
      by_cases hjk : j < k
      · have hjl : j < l.length := by omega
        have hjkb : decide ((j : Int) < (k : Int)) = true := decide_eq_true (by omega)
        obtain ⟨d, rfl⟩ : ∃ d', d = d' + 1 := ⟨d - 1, by omega⟩
        have HRl := Lib.hid (Kd.C_below HR.out (below_step HB2.out HW.out))
        obtain ⟨ad, rfl, _, _, _, g3, g4, _, _⟩ := at_T100 HRl.out (j : Int) (by omega) (by omega)
        have hen := en_le l hjl
        obtain ⟨ade, rfl, ge⟩ := Kd.at_int (Kd.C_below HEC2.out HW.out) (j : Int) (by omega) (by omega)
        rw [endsL_rd l j hjl] at ge
        have HGE : Hid (∀ w', Below W2.heap.size W2 w' → w'.cell? (ade.add j) = some (.int .i64 ((en l j : Nat) : Int))) := by
          intro w' hb
          obtain ⟨ade', e', ge'⟩ := Kd.at_int (Kd.C_below HEC2.out hb) (j : Int) (by omega) (by omega)
          rw [endsL_rd l j hjl, Int.toNat_natCast] at ge'
          injection e' with e'
          subst e'
          exact ge'
        have hx : rd_T100 l (j : Int) = l[j] := rdT_get l j hjl
        rw [hx] at g3 g4
        rw [Int.toNat_natCast] at g3 g4 ge
        have HS1 := Lib.hid (@pathS_in l a d j k hjk hjl)
        have HS2 := Lib.hid (@pathS_next l a d j k hjk hjl)
        generalize hxx : l[j] = x at *
        clear hxx hx
        have HX1 := blk_below HX.out HW.out
        have q2 : wr.cell? ⟨W1.heap.size, 2, none⟩ = some (.slice (some ade) l.length ce) := blk_cell HX1 2
        generalize hee : en l j = ej at *
        clear hee
        have hz0 : (0 : Int) ≤ (j : Int) := Int.natCast_nonneg _
        have hzl : (j : Int) < (l.length : Int) := by omega
        have hw1 : IntKind.i64.wrap ((j : Int) + 1) = (j : Int) + 1 := IntWalk.i64_in _ (by omega)
        by_cases ha : x.f3 ≤ a
        · have hab : decide (x.f3 ≤ a) = true := decide_eq_true ha
          by_cases hb : a < x.f4
          · have hbb : decide (a < x.f4) = true := decide_eq_true hb
            have e1 := HS1.out ⟨ha, hb⟩
            have hq := HL.out
            rw [e1] at hq
            have HQ1 : Hid ((xs ++ [(j : Int)]) ++ pathS l a d (j + 1) ej = q) := by rw [List.append_assoc]; exact hq
            clear hq e1 HL
            have hbo : (xs.length + 1) * 8 ≤ 140737488355328 := by omega
            have HOa := Lib.hid (Kd.R_alloc HO.out (.cells #[.int .i64 (j : Int)] 3))
            have HLa := Lib.hid (blk_new wr (.cells #[.int .i64 (j : Int)] 3))
            have HWa := Lib.hid (below_alloc HW.out (.cells #[.int .i64 (j : Int)] 3))
            have HXa := Lib.hid (blk_alloc HX1 (.cells #[.int .i64 (j : Int)] 3))
            go_wp2_with ((with_reducible refine gate_builtin (b := .append) (xs := #[.tmp 35, .tmp 37]) rfl ?_); at_builtin; refine Kd.R_append_rows kI (w0 := W2) W2.heap.size rfl (.tmp 35) (.tmp 37) 95 3 (.int .i64 0) 8 rfl Tryd.underlying95 info3 rfl (by decide) (by omega) _ xs [(j : Int)] (some ⟨wr.heap.size, 0, none⟩) 1 1 tru (fun _ => False) rfl rfl HOa.out (C_one HLa.out) (fun _ _ h => h) (fun _ h => h.elim) (fun _ _ => trivial) HWa.out HWa.out.size hbo ?_; intro v1 w1 ho1 hb1 hg1 hat1; have HO1 := Lib.hid ho1; have HW1 := Lib.hid hb1; have HX1' := Lib.hid (blk_below HX.out hb1); have q2' : w1.cell? ⟨W1.heap.size, 2, none⟩ = some (.slice (some ade) l.length ce) := blk_cell HX1'.out 2; have ge' := HGE.out w1 hb1; clear ho1 hb1 hg1 hat1)
            go_quiet (fail)
            have HO2 := Lib.hid (Kd.R_drewN HO1.out nq)
            have HW2 := Lib.hid (pw_below_drewN HW1.out nq)
            go_wp2_with fail
            go_roundw
            case rel => exact ⟨xs ++ [(j : Int)], j + 1, ej, d, by rw [Int.natCast_add]; rfl, rfl, hen.2, by simp; omega, by omega, by omega, HW2, HO2, HQ1⟩
            case measure => simp only [intOf]; omega
          · have hbb : decide (a < x.f4) = false := decide_eq_false hb
            have e1 := HS2.out (fun h => hb h.2)
            have hq := HL.out
            rw [e1] at hq
            have HQ1 := Lib.hid hq
            clear hq e1 HL
            go_wp2_with fail
            go_roundw
            case rel => exact ⟨xs, ej, k, d, rfl, rfl, hk, by omega, by omega, by omega, HW, HO, HQ1⟩
            case measure => simp only [intOf]; omega
        · have hab : decide (x.f3 ≤ a) = false := decide_eq_false ha
          have e1 := HS2.out (fun h => ha h.1)
          have hq := HL.out
          rw [e1] at hq
          have HQ1 := Lib.hid hq
          clear hq e1 HL
          go_wp2_with fail
          go_roundw
          case rel => exact ⟨xs, ej, k, d, rfl, rfl, hk, by omega, by omega, by omega, HW, HO, HQ1⟩
          case measure => simp only [intOf]; omega
      · have hjkb : decide ((j : Int) < (k : Int)) = false := decide_eq_false (by omega)
        have e0 := HL.out
        rw [pathS_out _ _ _ hjk, List.append_nil] at e0
        obtain ⟨Aq, cq, rfl, hcq, hCq⟩ := Kd.R_reads HO.out
        have HCq := Lib.hid hCq
        clear hCq
        go_wp2_with fail
        go_ret
        have e2 : q = xs := e0.symm
        rw [e2]
        exact ⟨Aq, cq, rfl, hcq, HCq.out, below_step HB2.out HW.out⟩
end Paint
end Go.Proofs.YtcijanmckhlpiaaDoor
