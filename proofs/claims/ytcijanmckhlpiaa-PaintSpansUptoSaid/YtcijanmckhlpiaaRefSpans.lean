import Derived.Test.YtcijanmckhlpiaaSpansWalk
import Derived.Test.YtcijanmckhlpiaaPaintRefClass
namespace Go.Proofs.Ytcijanmckhlpiaa
open Go.RowKit Go.Proofs.YtcijanmckhlpiaaW.PrintWords Go.Proofs.YtcijanmckhlpiaaW.PrintLast Go.Proofs.YtcijanmckhlpiaaW.PrintMore Go.Proofs.Ytcijanmckhlpiaa.PPaintClasses
set_option linter.unusedVariables false
set_option linter.unusedSimpArgs false
namespace Paint
theorem GoodP.len {t : List S76} {P : List Int} (h : GoodP t P) : P.length ≤ 2 * t.length + 1 := by
  have h1 : P.Nodup := h.up.imp fun {a b} (hab : a < b) => by omega
  have h2 : P ⊆ 0 :: plc t := fun x hx => by
    rcases (h.mem x).1 hx with e | e
    · simp [e]
    · simp [e.2]
  have h3 := h1.length_le_of_subset h2
  rw [List.length_cons, plc_len] at h3
  exact h3
theorem filter_lt : ∀ (P : List Int) (a b : Int), a < b → b ∈ P → (P.filter fun y => decide (b < y)).length < (P.filter fun y => decide (a < y)).length
  | [], a, b, h, hb => by cases hb
  | x :: P, a, b, h, hb => by
    have hle : (P.filter fun y => decide (b < y)).length ≤ (P.filter fun y => decide (a < y)).length := by
      clear hb
      induction P with
      | nil => exact Nat.le_refl _
      | cons z P ih =>
        rw [List.filter_cons, List.filter_cons]
        by_cases h1 : b < z
        · rw [if_pos (decide_eq_true h1), if_pos (decide_eq_true (by omega))]; simp only [List.length_cons]; omega
        · rw [if_neg (by simpa using h1)]
          split
          · simp only [List.length_cons]; omega
          · exact ih
    rw [List.filter_cons, List.filter_cons]
    rcases List.mem_cons.1 hb with rfl | hb
    · rw [if_neg (by simp), if_pos (decide_eq_true h)]; simp only [List.length_cons]; omega
    · have := filter_lt P a b h hb
      by_cases h1 : b < x
      · rw [if_pos (decide_eq_true h1), if_pos (decide_eq_true (by omega))]; simp only [List.length_cons]; omega
      · rw [if_neg (by simpa using h1)]
        split
        · simp only [List.length_cons]; omega
        · exact this
set_option maxRecDepth 100000 in
set_option maxHeartbeats 4000000 in
theorem refSpans_any (A : Option Addr) (c : Nat) (l : List PD) (B : Option Addr) (d : Nat) (t : List S76) (P : List Int) (w : World) (hr : k99.C w A l.length l) (hz : l.length ≤ 1048576) (hrt : k76.C w B t.length t) (hd : t.length ≤ d) (hzt : t.length ≤ 1048576) (hP : GoodP t P) :
    Calls Try.prog 29 #[LG (.slice A l.length c), .slice B t.length d] w fun e w' => ∃ v, e = .returned v ∧ k72.R 72 w' w.heap.size tru v (spansS l t P) ∧ Below w.heap.size w w' := by
  have HR := Lib.hid hr
  have HRT := Lib.hid hrt
  have HGP := Lib.hid hP
  have hP1 : P.length ≤ 2097153 := by have := hP.len; omega
  have hP0 : 0 < P.length := (List.getElem?_eq_some_iff.1 hP.first).1
  have HF := Lib.hid hP.first
  have HA : Hid (∀ W a, k76.C W B t.length t → Calls Try.prog 43 #[.slice B t.length d, .int .i64 a] W fun e w' => e = .returned (.tuple #[.int .i64 ((afterS t a).getD 0), .bool (afterS t a).isSome]) ∧ Below W.heap.size W w') := fun W a h => by
    obtain ⟨k, hk⟩ := (after_ev hzt a).rounds
    refine (trellisref21_after.calls k B d t a _ _ W h hd hk).mono ?_
    rintro e w' ⟨rfl, hdr⟩
    exact ⟨rfl, hdr.below⟩
  have HC : Hid (∀ W a, k99.C W A l.length l → k76.C W B t.length t → Calls Try.prog 23 #[LG (.slice A l.length c), .slice B t.length d, .int .i64 a] W fun e W' => e = .returned (.string (classAll l t a)) ∧ Below W.heap.size W W') := fun W a h1 h2 => refClass_any A c l B d t a W h1 hz h2 hd hzt
  clear hr hrt hP
  unfold LG at *
  have HX8 := Lib.hid (blk_new w (.cells #[.string ⟨#[]⟩, .slice none 0 0, .slice none 0 0, .slice none 0 0, .slice none 0 0, .slice none 0 0, .slice none 0 0, .slice none 0 0, .slice A l.length c, .slice none 0 0, .slice none 0 0, .slice none 0 0] 60))
  have HB8 := Lib.hid (below_alloc (Below.refl _ w) (.cells #[.string ⟨#[]⟩, .slice none 0 0, .slice none 0 0, .slice none 0 0, .slice none 0 0, .slice none 0 0, .slice none 0 0, .slice none 0 0, .slice A l.length c, .slice none 0 0, .slice none 0 0, .slice none 0 0] 60))
  go_enter Try.func29, Try.ntmps29
  have tok : True := trivial
  go_wp2_with fail
  generalize w.alloc (.cells #[.string ⟨#[]⟩, .slice none 0 0, .slice none 0 0, .slice none 0 0, .slice none 0 0, .slice none 0 0, .slice none 0 0, .slice none 0 0, .slice A l.length c, .slice none 0 0, .slice none 0 0, .slice none 0 0] 60) = W8 at *
  have HR8 := Lib.hid (Kd.C_below HR.out HB8.out)
  have HRT8 := Lib.hid (Kd.C_below HRT.out HB8.out)
  clear HR HRT
  go_loopw [5, 6] (fun v a w' => ∃ (out : List S72) (j : Nat) (pa : Int), a = .int .i64 pa ∧ P[j]? = some pa ∧ out.length ≤ j ∧ Hid (Below W8.heap.size W8 w') ∧ Hid (k72.R 72 w' W8.heap.size tru v out) ∧ Hid (spansGo (classAll l t) out (P.drop j) = spansS l t P)) (fun v a w' => (P.filter fun y => decide (intOf a < y)).length)
  case atStart => exact ⟨[], 0, 0, rfl, HF.out, Nat.le_refl _, Below.refl _ _, Kd.R_nil _ _ _ _ _, by rw [List.drop_zero]; rfl⟩
  case round =>
    obtain ⟨out, j, pa, rfl, hjp, hoj, HW9, HO9, HSp⟩ := hrel
    obtain ⟨hj, hjp⟩ := List.getElem?_eq_some_iff.1 hjp
    have hnx := HGP.out.next hj
    rw [hjp] at hnx
    go_wp2_with fail
    refine (HA.out wr pa (Kd.C_below HRT8.out HW9.out)).mono ?_
    rintro e X ⟨rfl, hbx⟩
    have HW10 := Lib.hid (HW9.out.trans (hbx.mono HW9.out.size))
    have HO10 := Lib.hid (Kd.R_below HO9.out hbx)
    clear HW9 HO9 hbx
    by_cases hjn : j + 1 < P.length
    · rw [List.getElem?_eq_getElem hjn] at hnx
      have hst := spansGo_step (classAll l t) out P j hjn
      rw [HSp.out, hjp] at hst
      have hlt : pa < P[j + 1] := by rw [← hjp]; exact List.pairwise_iff_getElem.1 HGP.out.up j (j + 1) hj hjn (by omega)
      have hP1g : P[j + 1]? = some P[j + 1] := List.getElem?_eq_getElem hjn
      generalize P[j + 1] = pb at *
      have HMS : Hid ((P.filter fun y => decide (pb < y)).length < (P.filter fun y => decide (pa < y)).length) := filter_lt P pa pb hlt (List.mem_of_getElem? hP1g)
      have HST := Lib.hid hst
      rw [hnx]
      have HX10 := Lib.hid (blk_below HX8.out HW10.out)
      clear hst HSp hjp hnx
      have hx0 := blk_cell HX10.out 0
      have hx1 := blk_cell HX10.out 1
      have hx2 := blk_cell HX10.out 2
      have hx3 := blk_cell HX10.out 3
      have hx4 := blk_cell HX10.out 4
      have hx5 := blk_cell HX10.out 5
      have hx6 := blk_cell HX10.out 6
      have hx7 := blk_cell HX10.out 7
      have hx8 := blk_cell HX10.out 8
      have hx9 := blk_cell HX10.out 9
      have hx10 := blk_cell HX10.out 10
      have hx11 := blk_cell HX10.out 11
      go_wp2_with fail
      refine (HC.out X pa (Kd.C_below HR8.out HW10.out) (Kd.C_below HRT8.out HW10.out)).mono ?_
      rintro e W11 ⟨rfl, hb11⟩
      have HW11 := Lib.hid (HW10.out.trans (hb11.mono HW10.out.size))
      have HO11 := Lib.hid (Kd.R_below HO10.out hb11)
      clear hb11 hx0 hx1 hx2 hx3 hx4 hx5 hx6 hx7 hx8 hx9 hx10 hx11 HX10 HW10 HO10
      generalize classAll l t pa = cv at *
      obtain ⟨Ao, co, rfl, hco, hCo⟩ := Kd.R_reads HO11.out
      have HCo := Lib.hid hCo
      clear hCo
      have hol : out.length ≤ 2097153 := by omega
      have hlw : IntKind.i64.wrap ((out.length : Int) - 1) = (out.length : Int) - 1 := IntWalk.i64_in _ (by omega)
      by_cases hce : (cv.toList == (⟨#[]⟩ : ByteArray).toList) = true
      · have hstep : stepS cv out pa pb = out := by unfold stepS; rw [if_pos hce]
        have hce3 : cv.toList.isEmpty = true := by rw [← emp_eq]; exact hce
        rw [hstep] at HST
        go_wp2_with fail
        go_roundw
        case rel => exact ⟨out, j + 1, pb, rfl, hP1g, by omega, HW11, HO11, HST.out.symm⟩
        case measure => exact HMS.out
      · have hce2 : (cv.toList == (⟨#[]⟩ : ByteArray).toList) = false := by simpa using hce
        have hce3 : cv.toList.isEmpty = false := by rw [← emp_eq]; exact hce2
        clear hce2
        by_cases ho0 : 0 < out.length
        · obtain ⟨g, cap, ev, hbg, hgl, cells, hbk⟩ := Kd.R_form HO11.out ho0
          injection ev with ev1 _ ev2
          subst ev1
          subst ev2
          obtain ⟨k, hk⟩ : ∃ k, out.length = k + 1 := ⟨out.length - 1, by omega⟩
          obtain ⟨ad2, e2, _, c1, c2⟩ := at_T72 HCo.out (k : Int) (by omega) (by omega)
          injection e2 with e2
          subst e2
          rw [Int.toNat_natCast, add_plain] at c1 c2
          have hf1 : W11.frozen? ⟨g, k * 3 + 1, none⟩ = false := blk_frozen hbk _
          have hxo : out[k]? = some (rd_T72 out (k : Int)) := by
            unfold rd_T72
            rw [Int.toNat_natCast, List.getD_eq_getElem?_getD, List.getElem?_eq_getElem (by omega)]; rfl
          have hlast : rd_T72 out ((out.length : Int) - 1) = rd_T72 out (k : Int) := by rw [hk]; congr 1; omega
          have hstepL : stepS cv out pa pb = if (rd_T72 out (k : Int)).f1 = pa ∧ ((rd_T72 out (k : Int)).f2.toList == cv.toList) = true then out.set k { rd_T72 out (k : Int) with f1 := pb } else out ++ [⟨pa, pb, cv⟩] := by
            unfold stepS
            rw [if_neg hce, hlast, hk]
            simp
          generalize rd_T72 out (k : Int) = x at *
          have HST' := Lib.hid hstepL
          have hkw : IntKind.i64.wrap ((k : Int) + 1 - 1) = (k : Int) := by rw [Int.add_sub_cancel]; exact IntWalk.i64_in _ (by omega)
          have hk0 : (0 : Int) ≤ (k : Int) := Int.natCast_nonneg _
          have hxo' := Lib.hid hxo
          have hbk' := Lib.hid hbk
          clear hxo hbk hstepL hlast hlw HCo hgl
          rw [hk] at HO11
          by_cases hto : x.f1 = pa
          · have htob : (x.f1 == pa) = true := by simpa using hto
            by_cases hcl : (x.f2.toList == cv.toList) = true
            · have hstep := HST'.out
              rw [if_pos ⟨hto, hcl⟩] at hstep
              rw [hstep] at HST
              clear hstep HST'
              go_wp2_with fail
              have HO12 : Hid (k72.R 72 (W11.setCell ⟨g, k * 3 + 1, none⟩ (.int .i64 pb)) W8.heap.size tru (.slice (some ⟨g, 0, none⟩) (k + 1) co) (out.set k { x with f1 := pb })) := Kd.R_fset HO11.out k x { x with f1 := pb } hxo'.out 1 (by decide) (.int .i64 pb) (fun W ok cs h => by rw [k72_openM h]; exact k72_mkM _ _ _ _)
              have HW12 := Lib.hid (below_set HW11.out hbg (j := k * 3 + 1) (v := .int .i64 pb))
              go_roundw
              case rel => exact ⟨out.set k { x with f1 := pb }, j + 1, pb, rfl, hP1g, by rw [List.length_set]; omega, HW12, HO12, HST.out.symm⟩
              case measure => exact HMS.out
            · have hclb : (x.f2.toList == cv.toList) = false := by simpa using hcl
              have hstep := HST'.out
              rw [if_neg (fun h => hcl h.2)] at hstep
              have hbo : (out.length + 1) * 32 ≤ 140737488355328 := by omega
              have HOa := Lib.hid (Kd.R_alloc HO11.out (.cells #[.int .i64 pa, .int .i64 pb, .string cv] 72))
              have HLa := Lib.hid (blk_new W11 (.cells #[.int .i64 pa, .int .i64 pb, .string cv] 72))
              have HWa := Lib.hid (below_alloc HW11.out (.cells #[.int .i64 pa, .int .i64 pb, .string cv] 72))
              rw [hstep] at HST
              go_wp2_with ((with_reducible refine gate_builtin (b := .append) (xs := #[.tmp 58, .tmp 63]) rfl ?_); at_builtin; refine Kd.R_append_rows k72 (w0 := W8) W8.heap.size rfl (.tmp 58) (.tmp 63) 66 72 (.agg #[.int .i64 0, .int .i64 0, .string ⟨#[]⟩]) 32 rfl Try.underlying66 info72' rfl (by decide) (by omega) _ out [⟨pa, pb, cv⟩] (some ⟨W11.heap.size, 0, none⟩) 1 1 tru (fun _ => False) rfl rfl HOa.out (C_one72 HLa.out) (fun _ _ h => h) (fun _ h => h.elim) (fun _ _ => trivial) HWa.out HWa.out.size hbo ?_; intro v1 w3 ho3 hb3 hg3 hat3)
              have HO3 := Lib.hid ho3
              have HW3 := Lib.hid hb3
              clear ho3 hb3 hg3 hat3
              go_wp2_with fail
              go_roundw
              case rel => exact ⟨out ++ [(⟨pa, pb, cv⟩ : S72)], j + 1, pb, rfl, hP1g, by simp; omega, HW3, HO3, HST.out.symm⟩
              case measure => exact HMS.out
          · have htob : (x.f1 == pa) = false := by simpa using hto
            have hstep := HST'.out
            rw [if_neg (fun h => hto h.1)] at hstep
            have hbo : (out.length + 1) * 32 ≤ 140737488355328 := by omega
            have HOa := Lib.hid (Kd.R_alloc HO11.out (.cells #[.int .i64 pa, .int .i64 pb, .string cv] 72))
            have HLa := Lib.hid (blk_new W11 (.cells #[.int .i64 pa, .int .i64 pb, .string cv] 72))
            have HWa := Lib.hid (below_alloc HW11.out (.cells #[.int .i64 pa, .int .i64 pb, .string cv] 72))
            rw [hstep] at HST
            go_wp2_with ((with_reducible refine gate_builtin (b := .append) (xs := #[.tmp 58, .tmp 63]) rfl ?_); at_builtin; refine Kd.R_append_rows k72 (w0 := W8) W8.heap.size rfl (.tmp 58) (.tmp 63) 66 72 (.agg #[.int .i64 0, .int .i64 0, .string ⟨#[]⟩]) 32 rfl Try.underlying66 info72' rfl (by decide) (by omega) _ out [⟨pa, pb, cv⟩] (some ⟨W11.heap.size, 0, none⟩) 1 1 tru (fun _ => False) rfl rfl HOa.out (C_one72 HLa.out) (fun _ _ h => h) (fun _ h => h.elim) (fun _ _ => trivial) HWa.out HWa.out.size hbo ?_; intro v1 w3 ho3 hb3 hg3 hat3)
            have HO3 := Lib.hid ho3
            have HW3 := Lib.hid hb3
            clear ho3 hb3 hg3 hat3
            go_wp2_with fail
            go_roundw
            case rel => exact ⟨out ++ [(⟨pa, pb, cv⟩ : S72)], j + 1, pb, rfl, hP1g, by simp; omega, HW3, HO3, HST.out.symm⟩
            case measure => exact HMS.out
        · have hoe : out = [] := List.eq_nil_of_length_eq_zero (by omega)
          have hstep : stepS cv out pa pb = out ++ [⟨pa, pb, cv⟩] := by
            unfold stepS
            rw [if_neg hce, if_neg (fun h => ho0 h.1)]
          subst hoe
          have hbo : (([] : List S72).length + 1) * 32 ≤ 140737488355328 := by omega
          have HOa := Lib.hid (Kd.R_alloc HO11.out (.cells #[.int .i64 pa, .int .i64 pb, .string cv] 72))
          have HLa := Lib.hid (blk_new W11 (.cells #[.int .i64 pa, .int .i64 pb, .string cv] 72))
          have HWa := Lib.hid (below_alloc HW11.out (.cells #[.int .i64 pa, .int .i64 pb, .string cv] 72))
          rw [hstep] at HST
          go_wp2_with ((with_reducible refine gate_builtin (b := .append) (xs := #[.tmp 58, .tmp 63]) rfl ?_); at_builtin; refine Kd.R_append_rows k72 (w0 := W8) W8.heap.size rfl (.tmp 58) (.tmp 63) 66 72 (.agg #[.int .i64 0, .int .i64 0, .string ⟨#[]⟩]) 32 rfl Try.underlying66 info72' rfl (by decide) (by omega) _ ([] : List S72) [⟨pa, pb, cv⟩] (some ⟨W11.heap.size, 0, none⟩) 1 1 tru (fun _ => False) rfl rfl HOa.out (C_one72 HLa.out) (fun _ _ h => h) (fun _ h => h.elim) (fun _ _ => trivial) HWa.out HWa.out.size hbo ?_; intro v1 w3 ho3 hb3 hg3 hat3)
          have HO3 := Lib.hid ho3
          have HW3 := Lib.hid hb3
          clear ho3 hb3 hg3 hat3
          go_wp2_with fail
          go_roundw
          case rel => exact ⟨([] : List S72) ++ [(⟨pa, pb, cv⟩ : S72)], j + 1, pb, rfl, hP1g, by simp, HW3, HO3, HST.out.symm⟩
          case measure => exact HMS.out
    · rw [List.getElem?_eq_none (by omega)] at hnx
      have e0 := HSp.out
      rw [spansGo_end _ _ _ _ hjn] at e0
      subst e0
      rw [hnx]
      go_wp2_with fail
      go_ret
      exact ⟨u5, rfl, Kd.R_lower HO10.out HB8.out.size, below_step HB8.out HW10.out⟩
end Paint
end Go.Proofs.Ytcijanmckhlpiaa
