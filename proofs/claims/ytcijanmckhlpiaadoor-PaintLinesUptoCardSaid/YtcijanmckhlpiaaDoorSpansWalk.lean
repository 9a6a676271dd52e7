import Derived.Test.YtcijanmckhlpiaaDoorSpansPlain
import Derived.Test.YtcijanmckhlpiaaDoorPaintClassAll
import Derived.Test.YtcijanmckhlpiaaDoorSortI
import Derived.Test.YtcijanmckhlpiaaDoorFSet
import Derived.Maps.RangeWalk
import Derived.Maps.OwnOps
import Derived.Sort.Grow
namespace Go.Proofs.YtcijanmckhlpiaaDoor
open Go.RowKit Go.Proofs.YtcijanmckhlpiaaDoorW.PrintWords Go.Proofs.YtcijanmckhlpiaaDoorW.PrintLast Go.Proofs.YtcijanmckhlpiaaDoorW.PrintMore Go.Proofs.YtcijanmckhlpiaaDoor.PPaintLines
set_option linter.unusedVariables false
set_option linter.unusedSimpArgs false
namespace Paint
theorem gate_ins {P : Program} {ops : Array Oper} {rest : List Oper} {o : Oper} {a : Act} {Q : Exit → Act → World → Prop} {W : World} {t : TypeId} {m k x : Operand} (_ho : o.op = .insert t m k x) (h : wpList P ops Q (o :: rest) a W) : wpList P ops Q (o :: rest) a W := h
/-- An entry of a map's literal. -/
theorem insert_own {H : Type} {P : Program} {w : World} {ops : Array Oper} {rest : List Oper} {o : Oper} {a : Act} {Q : Exit → Act → World → Prop}
    (hg : o.guard = none) (hd : o.dst = none) (m x v : Operand) (t : TypeId) (hop : o.op = Op.insert t m x v)
    (k e : TypeId) (K : Maps.Keyed P k) (ht : P.underlying t = some (.map k e)) (R : Value → Option (DataW H × List MemPlace)) (b n : Nat) (D : DataW H)
    (hm : a.eval m = .map (some b)) (hown : w.ownsMap P k R b n D) (hn : n < maxLen) (key val : Value) (kl : Lit) (hx : a.eval x = key) (hv : a.eval v = val) (hkey : keyOf P k key = some kl)
    (d : DataW H) (ps : List MemPlace) (hval : R val = some (d, ps))
    (hK : ∀ w', w'.ownsMap P k R b (n + 1) (D.put kl d) → w.grownBy w' (some b) → wpList P ops Q rest a w') :
    wpList P ops Q (o :: rest) a w := by
  refine wpList_plain hg fun K' hK' => ?_
  obtain ⟨w', hrun, r1, r2⟩ := hown.update K ht hn hkey hval
  unfold Oper.wp
  have hr : (execOp a.eval o).run P w = .ok .skip w' := by
    unfold execOp
    rw [hop]
    simp only [hm, hx, hv]
    simp [hrun, Result.andThen]
  rw [hr]
  show K' (a.put o.dst undef) w'
  rw [hd]
  exact hK' _ _ (hK w' r1 r2)
theorem ix0 (W : World) (a b : Int) : (Instr.index 106 (.agg #[.int .i64 a, .int .i64 b]) (.int .i64 0)).run Tryd.prog W = .ok (.int .i64 a) W := by
  have h3 : Tryd.prog.types[3]!.size = 1 := by kernel_rfl
  simp [Instr.index, run_underlying Tryd.underlying106, Result.andThen]
  go_simp
theorem ix1 (W : World) (a b : Int) : (Instr.index 106 (.agg #[.int .i64 a, .int .i64 b]) (.int .i64 1)).run Tryd.prog W = .ok (.int .i64 b) W := by
  simp [Instr.index, run_underlying Tryd.underlying106, Result.andThen]
  go_simp
theorem emp_eq (b : ByteArray) : (b.toList == (⟨#[]⟩ : ByteArray).toList) = b.toList.isEmpty := by
  have h : (⟨#[]⟩ : ByteArray).toList = [] := by rw [ByteArray.toList_eq]
  rw [h]
  cases b.toList <;> rfl
theorem info61' : (Tryd.prog.info? 61).map (fun i => (i.zero, i.size, i.bytes)) = some (some (.agg #[.int .i64 0, .int .i64 0, .string ⟨#[]⟩]), 3, 32) := by kernel_rfl
theorem C_one61 {W : World} {b : Nat} {p q : Int} {s : ByteArray} (h : W.heap[b]? = some (Obj.cells #[.int .i64 p, .int .i64 q, .string s] 61 (0, 0))) : k61.C W (some ⟨b, 0, none⟩) 1 [⟨p, q, s⟩] := by
  refine ⟨rfl, by decide, fun _ => ⟨⟨b, 0, none⟩, rfl, fun j x hj => ?_⟩⟩
  match j with
  | 0 =>
    simp at hj
    subst hj
    refine ⟨[.int .i64 p, .int .i64 q, .string s], rfl, k61_mk _ _, fun k u hu => ?_⟩
    rw [add_plain]
    refine (blk_cell h _).trans ?_
    match k with
    | 0 => exact hu
    | 1 => exact hu
    | 2 => exact hu
    | k + 3 => simp at hu
  | j + 1 => simp at hj
noncomputable abbrev plI : Value → Option (DU × List MemPlace) := plainElem (H := Unit) Tryd.prog 3
theorem below_grown1 {n₀ : Nat} {w W W' : World} (h : Below n₀ w W) {b : Nat} (hg : W.grownBy W' (some b)) (hb : n₀ ≤ b := by first | exact Nat.le_refl _ | omega) (hn : n₀ ≤ W.heap.size := by first | exact Below.size ‹_› | omega) : Below n₀ w W' :=
  h.grown hg hn (fun k e => by cases e; exact hb)
set_option maxRecDepth 100000 in
set_option maxHeartbeats 4000000 in
theorem spans_any (A : Option Addr) (c : Nat) (l : List PD) (B : Option Addr) (d : Nat) (t : List S100) (w : World) (hr : kPD.C w A l.length l) (hz : l.length ≤ 1048576) (hrt : k100.C w B t.length t) (hd : t.length ≤ d) (hzt : t.length ≤ 1048576)
    (hsl : ∀ x ∈ l, x.1.size ≤ maxLen) (hkr : ∀ x ∈ t, x.f5 ≤ 9223372036854775807) (hst : ∀ x ∈ t, x.f0.size ≤ maxLen) (hpl : ∀ x ∈ t, (Lit.int .i64 x.f3).wf = true ∧ (Lit.int .i64 x.f4).wf = true) :
    Calls Tryd.prog 16 #[LG (.slice A l.length c), .slice B t.length d] w fun e w' => ∃ P v, GoodP t P ∧ e = .returned v ∧ k61.R 61 w' w.heap.size tru v (spansS l t P) ∧ Below w.heap.size w w' := by
  have HR := Lib.hid hr
  have HRT := Lib.hid hrt
  have HPL := Lib.hid hpl
  have HL : Hid (∀ W, kPD.C W A l.length l → Calls Tryd.prog 37 #[LG (.slice A l.length c)] W fun e W' => ∃ b D, e = .returned (.map (some b)) ∧ W'.ownsMap Tryd.prog 9 plI b l.length D ∧ LM D l 0 ∧ W.heap.size ≤ b ∧ Below W.heap.size W W') := fun W h => lines_any A c l W h hz hsl
  have HC : Hid (∀ W a b n0 D, 0 ≤ a → kPD.C W A l.length l → k100.C W B t.length t → W.ownsMap Tryd.prog 9 plI b n0 D → LM D l 0 → Calls Tryd.prog 39 #[LG (.slice A l.length c), .map (some b), .slice B t.length d, .int .i64 a] W fun e W' => e = .returned (.string (classAll l t a)) ∧ Below W.heap.size W W') := fun W a b n0 D h0 h1 h2 h3 h4 => by
    have h := class_any A c l B d t a b n0 D W h1 hz h2 hd hzt hkr hst h3 h4
    have e : classAll l t a = clsS l t (pathAll t a).reverse := by unfold classAll; rw [if_neg (by omega)]
    rw [e]; exact h
  clear hr hrt hsl hkr hst hpl
  unfold LG at *
  have HX := Lib.hid (blk_new w (.cells #[.string ⟨#[]⟩, .slice none 0 0, .slice none 0 0, .slice none 0 0, .slice none 0 0, .slice none 0 0, .slice none 0 0, .slice none 0 0, .slice A l.length c, .slice none 0 0, .slice none 0 0, .slice none 0 0] 57))
  have HB := Lib.hid (below_alloc (Below.refl _ w) (.cells #[.string ⟨#[]⟩, .slice none 0 0, .slice none 0 0, .slice none 0 0, .slice none 0 0, .slice none 0 0, .slice none 0 0, .slice none 0 0, .slice A l.length c, .slice none 0 0, .slice none 0 0, .slice none 0 0] 57))
  have hx0 := blk_cell HX.out 0
  have hx1 := blk_cell HX.out 1
  have hx2 := blk_cell HX.out 2
  have hx3 := blk_cell HX.out 3
  have hx4 := blk_cell HX.out 4
  have hx5 := blk_cell HX.out 5
  have hx6 := blk_cell HX.out 6
  have hx7 := blk_cell HX.out 7
  have hx8 := blk_cell HX.out 8
  have hx9 := blk_cell HX.out 9
  have hx10 := blk_cell HX.out 10
  have hx11 := blk_cell HX.out 11
  go_enter Tryd.func16, Tryd.ntmps16
  have tok : True := trivial
  go_wp2_with fail
  clear hx0 hx1 hx2 hx3 hx4 hx5 hx6 hx7 hx8 hx9 hx10 hx11
  generalize w.alloc (.cells #[.string ⟨#[]⟩, .slice none 0 0, .slice none 0 0, .slice none 0 0, .slice none 0 0, .slice none 0 0, .slice none 0 0, .slice none 0 0, .slice A l.length c, .slice none 0 0, .slice none 0 0, .slice none 0 0] 57) = w0 at *
  refine (HL.out w0 (Kd.C_below HR.out HB.out)).mono ?_
  rintro e W1 ⟨bl, Dl, rfl, hml, hLM, hbb, hbel⟩
  have HML := Lib.hid hml
  have HLM := Lib.hid hLM
  have HX1 := Lib.hid (blk_below HX.out hbel)
  have HB1 := Lib.hid (below_step HB.out hbel)
  clear hml hLM hbb hbel
  have hmm := @run_makeMap Tryd.prog
  have HM0 : Hid ((W1.alloc (.map #[] 0)).ownsMap Tryd.prog 3 plI W1.heap.size 0 (.map [])) := World.ownsMap_made W1 Tryd.prog 3 plI
  have HBm := Lib.hid (below_alloc HB1.out (.map #[] 0))
  go_wp2_with (((with_reducible refine gate_ins rfl ?_)); refine insert_own rfl rfl _ _ _ 105 rfl 3 3 (Maps.int_keyed Tryd.underlying3) Tryd.underlying105 plI W1.heap.size 0 _ rfl HM0.out (by decide) _ _ (.int .i64 0) rfl rfl (Maps.keyOf_int_mk Tryd.underlying3 (by decide)) (.lit (.int .i64 1)) [] (plainElem_int Tryd.underlying3 (by decide)) ?_; intro W2 hm2 hg2)
  have HM2 := Lib.hid hm2
  have HS0 := Lib.hid (CS.start (.lit (.int .i64 1)))
  have HW2 : Hid (Below W1.heap.size W1 W2) := below_grown1 (below_alloc (Below.refl _ W1) (.map #[] 0)) hg2 (Nat.le_refl _) (by simp)
  clear hm2 hg2 HM0
  go_loopw [25] (fun v w' => ∃ (i : Nat) (D : DU), v = .int .i64 (i : Int) ∧ i ≤ t.length ∧ Hid (CS D (plc (t.take i))) ∧ Hid (Below W1.heap.size W1 w') ∧ Hid (w'.ownsMap Tryd.prog 3 plI W1.heap.size (1 + 2 * i) D)) (fun v _ => t.length - (intOf v).toNat)
  case atStart => exact ⟨0, _, rfl, Nat.zero_le _, HS0, HW2, HM2⟩
  case round =>
    clear HM2 HS0 HW2
    obtain ⟨i, D, rfl, hi, HS, HW, HM⟩ := hrel
    by_cases hil : i < t.length
    · have hib : decide ((i : Int) < (t.length : Int)) = true := decide_eq_true (by omega)
      obtain ⟨ad, rfl, g0, g1, g2, g3, g4, g5, g6⟩ := at_T100 (Kd.C_below HRT.out (below_step HB1.out HW.out)) (i : Int) (by omega) (by omega)
      have hpt := plc_take t i hil
      have hwf := HPL.out _ (List.getElem_mem hil)
      rw [show rd_T100 t (i : Int) = t[i] from rdT_get t i hil] at g0 g1 g2 g3 g4 g5 g6
      rw [Int.toNat_natCast] at g0 g1 g2 g3 g4 g5 g6
      generalize t[i] = x at *
      have HPT := Lib.hid hpt
      obtain ⟨hwf3, hwf4⟩ := hwf
      clear hpt
      have hz0 : (0 : Int) ≤ (i : Int) := Int.natCast_nonneg _
      have hzl : (i : Int) < (t.length : Int) := by omega
      have hzw : IntKind.i64.wrap ((i : Int) + 1) = (i : Int) + 1 := IntWalk.i64_in _ (by omega)
      go_wp2_with fail
      have HWa := Lib.hid (below_alloc HW.out (.cells #[.string x.f0, .bool x.f1, .string x.f2, .int .i64 x.f3, .int .i64 x.f4, .int .i64 x.f5, .int .i64 x.f6] 100))
      have HMa := Lib.hid (HM.out.alloc (.cells #[.string x.f0, .bool x.f1, .string x.f2, .int .i64 x.f3, .int .i64 x.f4, .int .i64 x.f5, .int .i64 x.f6] 100))
      go_loopw [34] (fun v w' => ∃ (j : Nat) (D' : DU), v = .int .i64 (j : Int) ∧ j ≤ 2 ∧ Hid (CS D' (plc (t.take i) ++ [x.f3, x.f4].take j)) ∧ Hid (Below W1.heap.size W1 w') ∧ Hid (w'.ownsMap Tryd.prog 3 plI W1.heap.size (1 + 2 * i + j) D')) (fun v _ => 2 - (intOf v).toNat)
      case atStart => exact ⟨0, D, rfl, by omega, by rw [List.take_zero, List.append_nil]; exact HS, HWa, HMa⟩
      case round =>
        clear HMa HWa
        obtain ⟨j, D2, rfl, hj, HS2, HW2, HM2⟩ := hrel
        match j, hj with
        | 0, _ =>
          have hix := ix0 wr x.f3 x.f4
          by_cases hp : x.f3 > 0
          · have hpb : decide (0 < x.f3) = true := decide_eq_true hp
            have hkey := Maps.keyOf_int_mk (P := Tryd.prog) (k := 3) Tryd.underlying3 hwf3
            go_wp2_with (first | (at_lookup; refine wpList_lookup_own_int _ rfl _ _ 105 rfl 3 3 .i64 (Maps.int_keyed Tryd.underlying3) Tryd.underlying105 Tryd.underlying3 (Tryd.zeroValue3 _) W1.heap.size _ _ rfl HM2.out _ _ rfl hkey ?_; intro cv hat hwc) | (at_mapUpdate; refine wpList_mapUpdate_own _ rfl _ _ _ 105 rfl 3 3 (Maps.int_keyed Tryd.underlying3) Tryd.underlying105 _ W1.heap.size _ _ rfl HM2.out (by have : maxLen = 9223372036854775807 := rfl; omega) _ _ _ rfl rfl hkey _ [] (plainElem_int Tryd.underlying3 (wrap64_wf _)) ?_; intro W5 hm5 hg5))
            have HM5 := Lib.hid hm5
            have HW5 := Lib.hid (below_grown1 HW2.out hg5)
            clear hm5 hg5
            go_wp2_with fail
            go_roundw
            case rel => exact ⟨1, _, rfl, by omega, Lib.hid (by simpa [List.append_assoc] using HS2.out.bump hp (.lit (.int .i64 (wrap64 (cv + 1))))), HW5, HM5⟩
            case measure => simp [intOf]
          · have hpb : decide (0 < x.f3) = false := decide_eq_false hp
            go_wp2_with fail
            go_roundw
            case rel => exact ⟨1, _, rfl, by omega, Lib.hid (by simpa [List.append_assoc] using HS2.out.skip hp), HW2, Lib.hid (HM2.out.mono (by omega))⟩
            case measure => simp [intOf]
        | 1, _ =>
          have hix := ix1 wr x.f3 x.f4
          by_cases hp : x.f4 > 0
          · have hpb : decide (0 < x.f4) = true := decide_eq_true hp
            have hkey := Maps.keyOf_int_mk (P := Tryd.prog) (k := 3) Tryd.underlying3 hwf4
            go_wp2_with (first | (at_lookup; refine wpList_lookup_own_int _ rfl _ _ 105 rfl 3 3 .i64 (Maps.int_keyed Tryd.underlying3) Tryd.underlying105 Tryd.underlying3 (Tryd.zeroValue3 _) W1.heap.size _ _ rfl HM2.out _ _ rfl hkey ?_; intro cv hat hwc) | (at_mapUpdate; refine wpList_mapUpdate_own _ rfl _ _ _ 105 rfl 3 3 (Maps.int_keyed Tryd.underlying3) Tryd.underlying105 _ W1.heap.size _ _ rfl HM2.out (by have : maxLen = 9223372036854775807 := rfl; omega) _ _ _ rfl rfl hkey _ [] (plainElem_int Tryd.underlying3 (wrap64_wf _)) ?_; intro W5 hm5 hg5))
            have HM5 := Lib.hid hm5
            have HW5 := Lib.hid (below_grown1 HW2.out hg5)
            clear hm5 hg5
            go_wp2_with fail
            go_roundw
            case rel => exact ⟨2, _, rfl, by omega, Lib.hid (by simpa [List.append_assoc] using HS2.out.bump hp (.lit (.int .i64 (wrap64 (cv + 1))))), HW5, HM5⟩
            case measure => simp [intOf]
          · have hpb : decide (0 < x.f4) = false := decide_eq_false hp
            go_wp2_with fail
            go_roundw
            case rel => exact ⟨2, _, rfl, by omega, Lib.hid (by simpa [List.append_assoc] using HS2.out.skip hp), HW2, Lib.hid (HM2.out.mono (by omega))⟩
            case measure => simp [intOf]
        | 2, _ =>
          have HS3 : Hid (CS D2 (plc (t.take (i + 1)))) := by rw [HPT.out]; exact HS2
          go_wp2_with fail
          go_roundw
          case rel => exact ⟨i + 1, D2, by rw [Int.natCast_add]; rfl, by omega, HS3, HW2, Lib.hid (HM2.out.mono (by omega))⟩
          case measure => simp only [intOf]; omega
    · have hib : decide ((i : Int) < (t.length : Int)) = false := decide_eq_false (by omega)
      obtain rfl : i = t.length := by omega
      rw [List.take_length] at HS
      obtain ⟨Wc, hWc⟩ : ∃ Wc, Wc = wr := ⟨_, rfl⟩
      subst hWc
      go_wp2_with (at_range; refine wpList_range_own _ rfl _ 105 rfl 3 3 (Maps.int_keyed Tryd.underlying3) Tryd.underlying105 plI W1.heap.size _ _ rfl HM.out ?_; intro W6 hr6 hg6 hs6)
      have hsD := HM.out.size_le
      have HR6 := Lib.hid hr6
      have HW6 := Lib.hid (HW.out.trans ((below_none hg6).mono HW.out.size))
      have hs1 := HW.out.size
      clear hr6 hg6
      go_frame
      go_loopw [11] (fun v w' => ∃ (ss : List Int) (left : Lit → Bool) (cnt : Nat), Hid (w'.ranges Tryd.prog 3 plI W1.heap.size Wc.heap.size (1 + 2 * t.length) D left cnt) ∧ Hid (CollectedI D left ss) ∧ ss.length + cnt ≤ Maps.size D ∧ Hid (Below W1.heap.size W1 w') ∧ Hid (kI.R 3 w' W6.heap.size tru v ss) ∧ W6.heap.size ≤ w'.heap.size) (fun _ wr => wr.rangeLeft W1.heap.size Wc.heap.size)
      case atStart => exact ⟨[], _, _, HR6, Lib.hid (CollectedI.start D), by simp, HW6, Kd.R_nil _ _ _ _ _, Nat.le_refl _⟩
      case round =>
        clear HR6 HW6
        obtain ⟨ss, left, cnt, HRg, HC1, hcs, HW7, HO, hsw⟩ := hrel
        go_wp2_with (at_next; refine wpList_next_ranges_ii _ rfl _ rfl 3 3 .i64 .i64 (Maps.int_keyed Tryd.underlying3) Tryd.underlying3 Tryd.underlying3 W1.heap.size Wc.heap.size (1 + 2 * t.length) D left cnt rfl HRg.out ?_ ?_)
        · intro hc0 hl0
          go_wp2_with fail
          have hmem : ∀ x, x ∈ ss ↔ Maps.has D (.int .i64 x) = true := fun x => by rw [HC1.out.2 x, hl0]; simp
          have HGP := Lib.hid (GoodP.of_sorted HS.out HC1.out.1 hmem)
          have hss0 : 0 < ss.length := List.length_pos_of_mem ((hmem 0).2 ((HS.out.has 0).2 (.inl rfl)))
          refine (sortI_any wr W6.heap.size ss u11 HO.out hss0 (by omega)).mono ?_
          rintro e W8 ⟨rfl, hR8, hg8⟩
          have hln8 : (ss.mergeSort fun x y => decide (x ≤ y)).length = ss.length := List.length_mergeSort ss
          have hW8 : Below W1.heap.size W1 W8 := HW7.out.grown hg8 HW7.out.size (fun k hk => by have h9 := ((Kd.R_bound HO.out).1 k hk).2.1; omega)
          generalize (ss.mergeSort fun x y => decide (x ≤ y)) = P at *
          have hP1 : P.length ≤ 2097153 := by omega
          have hP0 : 0 < P.length := by omega
          clear hmem HC1 HRg hcs hl0 hc0 hg8 hsD HS HO HM hln8 hss0
          obtain ⟨A8, c8, rfl, hc8, hC8⟩ := Kd.R_reads hR8
          have HC8 := Lib.hid hC8
          have HB8 := Lib.hid (below_step HB1.out hW8)
          have HX8 := Lib.hid (blk_below HX1.out hW8)
          have HML8 := Lib.hid (ownsMap_below HML.out hW8 HML.out.lt)
          have HR8 := Lib.hid (Kd.C_below HR.out HB8.out)
          have HRT8 := Lib.hid (Kd.C_below HRT.out HB8.out)
          clear hR8 hC8 hW8 HW7 HW HX1 HX HB HB1 HBm HML HR HRT
          go_wp2_with fail
          go_loopw [13, 14] (fun v i w' => ∃ (out : List S61) (j : Nat), i = .int .i64 (j : Int) ∧ j < P.length ∧ out.length ≤ j ∧ Hid (Below W8.heap.size W8 w') ∧ Hid (k61.R 61 w' W8.heap.size tru v out) ∧ Hid (spansGo (classAll l t) out (P.drop j) = spansS l t P)) (fun _ i _ => P.length - (intOf i).toNat)
          case atStart => exact ⟨[], 0, rfl, hP0, Nat.le_refl _, Below.refl _ _, Kd.R_nil _ _ _ _ _, by rw [List.drop_zero]; rfl⟩
          case round =>
            obtain ⟨out, j, rfl, hj, hoj, HW9, HO9, HSp⟩ := hrel
            have hzw : IntKind.i64.wrap ((j : Int) + 1) = (j : Int) + 1 := IntWalk.i64_in _ (by omega)
            by_cases hjn : j + 1 < P.length
            · have hjb : decide ((j : Int) + 1 < (P.length : Int)) = true := decide_eq_true (by omega)
              have hCr := Kd.C_below HC8.out HW9.out
              obtain ⟨ad, rfl, g1⟩ := Kd.at_int hCr (j : Int) (by omega) (by omega)
              obtain ⟨ad', e', g2⟩ := Kd.at_int hCr ((j : Int) + 1) (by omega) (by omega)
              injection e' with e'
              subst e'
              rw [rd_get P j (by omega), Int.toNat_natCast] at g1
              rw [show ((j : Int) + 1) = ((j + 1 : Nat) : Int) by omega, rd_get P (j + 1) hjn, Int.toNat_natCast] at g2
              have hst := spansGo_step (classAll l t) out P j hjn
              rw [HSp.out] at hst
              have HST := Lib.hid hst
              have ha0 : 0 ≤ P[j] := by rcases (HGP.out.mem P[j]).1 (List.getElem_mem _) with h9 | h9 <;> omega
              clear hst HSp hCr
              generalize P[j] = pa at *
              generalize P[j + 1] = pb at *
              have g3 : wr.cell? ⟨ad.block, ad.off + (j + 1), none⟩ = some (.int .i64 pb) := by rw [← g2]; congr 1
              have hj0 : (0 : Int) ≤ (j : Int) := Int.natCast_nonneg _
              have hj1 : (j : Int) < (P.length : Int) := by omega
              have hj2 : (j : Int) + 1 < (P.length : Int) := by omega
              have hj3 : (0 : Int) ≤ (j : Int) + 1 := by omega
              have hj4 : ((j : Int) + 1).toNat = j + 1 := by omega
              go_wp2_with fail
              go_quiet (fail)
              have HW10 := Lib.hid (pw_below_drewN HW9.out nq)
              have HO10 := Lib.hid (Kd.R_drewN HO9.out nq)
              generalize wr.drewN nq = X at *
              have HX10 := Lib.hid (blk_below HX8.out HW10.out)
              clear g1 g2 g3 HW9 HO9
              have hx0 := blk_cell HX10.out 0
              have hx1 := blk_cell HX10.out 1
              have hx2 := blk_cell HX10.out 2
              have hx3 := blk_cell HX10.out 3
              have hx4 := blk_cell HX10.out 4
              have hx5 := blk_cell HX10.out 5
              have hx6 := blk_cell HX10.out 6
              have hx7 := blk_cell HX10.out 7
              have hx8 := blk_cell HX10.out 8
              have hx9 := blk_cell HX10.out 9
              have hx10 := blk_cell HX10.out 10
              have hx11 := blk_cell HX10.out 11
              go_wp2_with fail
              refine (HC.out X pa bl _ Dl ha0 (Kd.C_below HR8.out HW10.out) (Kd.C_below HRT8.out HW10.out) (ownsMap_below HML8.out HW10.out HML8.out.lt) HLM.out).mono ?_
              rintro e W11 ⟨rfl, hb11⟩
              have HW11 := Lib.hid (HW10.out.trans (hb11.mono HW10.out.size))
              have HO11 := Lib.hid (Kd.R_below HO10.out hb11)
              clear hb11 hx0 hx1 hx2 hx3 hx4 hx5 hx6 hx7 hx8 hx9 hx10 hx11 HX10 HW10 HO10
              generalize classAll l t pa = cv at *
              obtain ⟨Ao, co, rfl, hco, hCo⟩ := Kd.R_reads HO11.out
              have HCo := Lib.hid hCo
              clear hCo
              have hol : out.length ≤ 2097153 := by omega
              have hlw : IntKind.i64.wrap ((out.length : Int) - 1) = (out.length : Int) - 1 := IntWalk.i64_in _ (by omega)
              by_cases hce : (cv.toList == (⟨#[]⟩ : ByteArray).toList) = true
              · have hstep : stepS cv out pa pb = out := by unfold stepS; rw [if_pos hce]
                have hce3 : cv.toList.isEmpty = true := by rw [← emp_eq]; exact hce
                rw [hstep] at HST
                go_wp2_with fail
                go_roundw
                case rel => exact ⟨out, j + 1, by rw [Int.natCast_add]; rfl, hjn, by omega, HW11, HO11, HST.out.symm⟩
                case measure => simp only [intOf]; omega
              · have hce2 : (cv.toList == (⟨#[]⟩ : ByteArray).toList) = false := by simpa using hce
                have hce3 : cv.toList.isEmpty = false := by rw [← emp_eq]; exact hce2
                clear hce2
                by_cases ho0 : 0 < out.length
                · obtain ⟨g, cap, ev, hbg, hgl, cells, hbk⟩ := Kd.R_form HO11.out ho0
                  injection ev with ev1 _ ev2
                  subst ev1
                  subst ev2
                  obtain ⟨k, hk⟩ : ∃ k, out.length = k + 1 := ⟨out.length - 1, by omega⟩
                  obtain ⟨ad2, e2, _, c1, c2⟩ := at_T61 HCo.out (k : Int) (by omega) (by omega)
                  injection e2 with e2
                  subst e2
                  rw [Int.toNat_natCast, add_plain] at c1 c2
                  have hf1 : W11.frozen? ⟨g, k * 3 + 1, none⟩ = false := blk_frozen hbk _
                  have hxo : out[k]? = some (rd_T61 out (k : Int)) := by
                    unfold rd_T61
                    rw [Int.toNat_natCast, List.getD_eq_getElem?_getD, List.getElem?_eq_getElem (by omega)]; rfl
                  have hlast : rd_T61 out ((out.length : Int) - 1) = rd_T61 out (k : Int) := by rw [hk]; congr 1; omega
                  have hstepL : stepS cv out pa pb = if (rd_T61 out (k : Int)).f1 = pa ∧ ((rd_T61 out (k : Int)).f2.toList == cv.toList) = true then out.set k { rd_T61 out (k : Int) with f1 := pb } else out ++ [⟨pa, pb, cv⟩] := by
                    unfold stepS
                    rw [if_neg hce, hlast, hk]
                    simp
                  generalize rd_T61 out (k : Int) = x at *
                  have HST' := Lib.hid hstepL
                  have hkw : IntKind.i64.wrap ((k : Int) + 1 - 1) = (k : Int) := by rw [Int.add_sub_cancel]; exact IntWalk.i64_in _ (by omega)
                  have hk0 : (0 : Int) ≤ (k : Int) := Int.natCast_nonneg _
                  have hxo' := Lib.hid hxo
                  have hbk' := Lib.hid hbk
                  clear hxo hbk hstepL hlast hlw HCo hgl
                  rw [hk] at HO11
                  by_cases hto : x.f1 = pa
                  · have htob : (x.f1 == pa) = true := by simpa using hto
                    by_cases hcl : (x.f2.toList == cv.toList) = true
                    · have hstep := HST'.out
                      rw [if_pos ⟨hto, hcl⟩] at hstep
                      rw [hstep] at HST
                      clear hstep HST'
                      go_wp2_with fail
                      have HO12 : Hid (k61.R 61 (W11.setCell ⟨g, k * 3 + 1, none⟩ (.int .i64 pb)) W8.heap.size tru (.slice (some ⟨g, 0, none⟩) (k + 1) co) (out.set k { x with f1 := pb })) := Kd.R_fset HO11.out k x { x with f1 := pb } hxo'.out 1 (by decide) (.int .i64 pb) (fun W ok cs h => by rw [k61_openM h]; exact k61_mkM _ _ _ _)
                      have HW12 := Lib.hid (below_set HW11.out hbg (j := k * 3 + 1) (v := .int .i64 pb))
                      go_roundw
                      case rel => exact ⟨out.set k { x with f1 := pb }, j + 1, by rw [Int.natCast_add]; rfl, hjn, by rw [List.length_set]; omega, HW12, HO12, HST.out.symm⟩
                      case measure => simp only [intOf]; omega
                    · have hclb : (x.f2.toList == cv.toList) = false := by simpa using hcl
                      have hstep := HST'.out
                      rw [if_neg (fun h => hcl h.2)] at hstep
                      have hbo : (out.length + 1) * 32 ≤ 140737488355328 := by omega
                      have HOa := Lib.hid (Kd.R_alloc HO11.out (.cells #[.int .i64 pa, .int .i64 pb, .string cv] 61))
                      have HLa := Lib.hid (blk_new W11 (.cells #[.int .i64 pa, .int .i64 pb, .string cv] 61))
                      have HWa := Lib.hid (below_alloc HW11.out (.cells #[.int .i64 pa, .int .i64 pb, .string cv] 61))
                      rw [hstep] at HST
                      go_wp2_with ((with_reducible refine gate_builtin (b := .append) (xs := #[.tmp 81, .tmp 86]) rfl ?_); at_builtin; refine Kd.R_append_rows k61 (w0 := W8) W8.heap.size rfl (.tmp 81) (.tmp 86) 44 61 (.agg #[.int .i64 0, .int .i64 0, .string ⟨#[]⟩]) 32 rfl Tryd.underlying44 info61' rfl (by decide) (by omega) _ out [⟨pa, pb, cv⟩] (some ⟨W11.heap.size, 0, none⟩) 1 1 tru (fun _ => False) rfl rfl HOa.out (C_one61 HLa.out) (fun _ _ h => h) (fun _ h => h.elim) (fun _ _ => trivial) HWa.out HWa.out.size hbo ?_; intro v1 w3 ho3 hb3 hg3 hat3)
                      have HO3 := Lib.hid ho3
                      have HW3 := Lib.hid hb3
                      clear ho3 hb3 hg3 hat3
                      go_wp2_with fail
                      go_roundw
                      case rel => exact ⟨out ++ [(⟨pa, pb, cv⟩ : S61)], j + 1, by rw [Int.natCast_add]; rfl, hjn, by simp; omega, HW3, HO3, HST.out.symm⟩
                      case measure => simp only [intOf]; omega
                  · have htob : (x.f1 == pa) = false := by simpa using hto
                    have hstep := HST'.out
                    rw [if_neg (fun h => hto h.1)] at hstep
                    have hbo : (out.length + 1) * 32 ≤ 140737488355328 := by omega
                    have HOa := Lib.hid (Kd.R_alloc HO11.out (.cells #[.int .i64 pa, .int .i64 pb, .string cv] 61))
                    have HLa := Lib.hid (blk_new W11 (.cells #[.int .i64 pa, .int .i64 pb, .string cv] 61))
                    have HWa := Lib.hid (below_alloc HW11.out (.cells #[.int .i64 pa, .int .i64 pb, .string cv] 61))
                    rw [hstep] at HST
                    go_wp2_with ((with_reducible refine gate_builtin (b := .append) (xs := #[.tmp 81, .tmp 86]) rfl ?_); at_builtin; refine Kd.R_append_rows k61 (w0 := W8) W8.heap.size rfl (.tmp 81) (.tmp 86) 44 61 (.agg #[.int .i64 0, .int .i64 0, .string ⟨#[]⟩]) 32 rfl Tryd.underlying44 info61' rfl (by decide) (by omega) _ out [⟨pa, pb, cv⟩] (some ⟨W11.heap.size, 0, none⟩) 1 1 tru (fun _ => False) rfl rfl HOa.out (C_one61 HLa.out) (fun _ _ h => h) (fun _ h => h.elim) (fun _ _ => trivial) HWa.out HWa.out.size hbo ?_; intro v1 w3 ho3 hb3 hg3 hat3)
                    have HO3 := Lib.hid ho3
                    have HW3 := Lib.hid hb3
                    clear ho3 hb3 hg3 hat3
                    go_wp2_with fail
                    go_roundw
                    case rel => exact ⟨out ++ [(⟨pa, pb, cv⟩ : S61)], j + 1, by rw [Int.natCast_add]; rfl, hjn, by simp; omega, HW3, HO3, HST.out.symm⟩
                    case measure => simp only [intOf]; omega
                · have hoe : out = [] := List.eq_nil_of_length_eq_zero (by omega)
                  have hstep : stepS cv out pa pb = out ++ [⟨pa, pb, cv⟩] := by
                    unfold stepS
                    rw [if_neg hce, if_neg (fun h => ho0 h.1)]
                  subst hoe
                  have hbo : (([] : List S61).length + 1) * 32 ≤ 140737488355328 := by omega
                  have HOa := Lib.hid (Kd.R_alloc HO11.out (.cells #[.int .i64 pa, .int .i64 pb, .string cv] 61))
                  have HLa := Lib.hid (blk_new W11 (.cells #[.int .i64 pa, .int .i64 pb, .string cv] 61))
                  have HWa := Lib.hid (below_alloc HW11.out (.cells #[.int .i64 pa, .int .i64 pb, .string cv] 61))
                  rw [hstep] at HST
                  go_wp2_with ((with_reducible refine gate_builtin (b := .append) (xs := #[.tmp 81, .tmp 86]) rfl ?_); at_builtin; refine Kd.R_append_rows k61 (w0 := W8) W8.heap.size rfl (.tmp 81) (.tmp 86) 44 61 (.agg #[.int .i64 0, .int .i64 0, .string ⟨#[]⟩]) 32 rfl Tryd.underlying44 info61' rfl (by decide) (by omega) _ ([] : List S61) [⟨pa, pb, cv⟩] (some ⟨W11.heap.size, 0, none⟩) 1 1 tru (fun _ => False) rfl rfl HOa.out (C_one61 HLa.out) (fun _ _ h => h) (fun _ h => h.elim) (fun _ _ => trivial) HWa.out HWa.out.size hbo ?_; intro v1 w3 ho3 hb3 hg3 hat3)
                  have HO3 := Lib.hid ho3
                  have HW3 := Lib.hid hb3
                  clear ho3 hb3 hg3 hat3
                  go_wp2_with fail
                  go_roundw
                  case rel => exact ⟨([] : List S61) ++ [(⟨pa, pb, cv⟩ : S61)], j + 1, by rw [Int.natCast_add]; rfl, hjn, by simp, HW3, HO3, HST.out.symm⟩
                  case measure => simp only [intOf]; omega
            · have hjb : decide ((j : Int) + 1 < (P.length : Int)) = false := decide_eq_false (by omega)
              have e0 := HSp.out
              rw [spansGo_end _ _ _ _ hjn] at e0
              subst e0
              go_wp2_with fail
              go_ret
              exact ⟨P, u13, HGP.out, rfl, Kd.R_lower HO9.out HB8.out.size, below_step HB8.out HW9.out⟩
        · intro xk cv w2 cnt2 hwx hwc hlk hat hrg2 hlt hg2 hs2 hen
          have HOw := Lib.hid (R_sc_grown HO.out hg2 (fun k hk e => by have h9 := ((Kd.R_bound HO.out).1 k hk).2.1; injection e with e; omega))
          have HC2 := Lib.hid (HC1.out.step hlk hat)
          have HRg2 := Lib.hid hrg2
          have HW8 := Lib.hid (below_grown1 HW7.out hg2 (by omega) HW7.out.size)
          have hbo : (ss.length + 1) * 8 ≤ 140737488355328 := by omega
          clear hlk hat hrg2 hg2
          have HOa := Lib.hid (Kd.R_alloc HOw.out (.cells #[.int .i64 xk] 3))
          have HLa := Lib.hid (blk_new w2 (.cells #[.int .i64 xk] 3))
          have HWa := Lib.hid (below_alloc HW8.out (.cells #[.int .i64 xk] 3))
          have HRa := Lib.hid (HRg2.out.alloc (.cells #[.int .i64 xk] 3))
          have hs2' : W6.heap.size ≤ w2.heap.size := by omega
          clear hs2
          have hsa : W6.heap.size ≤ (w2.alloc (.cells #[.int .i64 xk] 3)).heap.size := by rw [World.size_alloc]; omega
          go_wp2_with ((with_reducible refine gate_builtin (b := .append) (xs := #[.tmp 51, .tmp 53]) rfl ?_); at_builtin; refine Kd.R_append_rows kI (w0 := w2.alloc (.cells #[.int .i64 xk] 3)) W6.heap.size rfl (.tmp 51) (.tmp 53) 95 3 (.int .i64 0) 8 rfl Tryd.underlying95 info3 rfl (by decide) (by omega) _ ss [xk] (some ⟨w2.heap.size, 0, none⟩) 1 1 tru (fun _ => False) rfl rfl HOa.out (C_one HLa.out) (fun _ _ h => h) (fun _ h => h.elim) (fun _ _ => trivial) (Below.refl _ _) hsa hbo ?_; intro v1 w3 ho3 hb3 hg3 hat3)
          have HO3 := Lib.hid ho3
          have HR3 := Lib.hid (HRa.out.kept hg3 (fun e => by have h9 := ((Kd.R_bound HOa.out).1 _ e.symm).2.1; omega) (fun e => by have h9 := ((Kd.R_bound HOa.out).1 _ e.symm).2.1; omega))
          have HW3 := Lib.hid (HWa.out.trans (hb3.mono (by omega)))
          have hs3 := Nat.le_trans hsa hb3.size
          clear ho3 hb3 hg3 hat3
          go_wp2_with fail
          go_roundw
          case rel => exact ⟨ss ++ [xk], _, cnt2, HR3, HC2, by rw [List.length_append]; simp only [List.length_cons, List.length_nil]; omega, HW3, HO3, hs3⟩
          case measure => rw [HR3.out.left_eq, HRg.out.left_eq]; exact hlt
end Paint
end Go.Proofs.YtcijanmckhlpiaaDoor
