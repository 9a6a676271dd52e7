import Derived.Test.YtcijanmckhlpiaaDoorTilesPlain
import Derived.Test.YtcijanmckhlpiaaDoorSpansWalk
namespace Go.Proofs.YtcijanmckhlpiaaDoor
open Go.RowKit Go.Proofs.YtcijanmckhlpiaaDoorW.PrintWords Go.Proofs.YtcijanmckhlpiaaDoorW.PrintLast Go.Proofs.YtcijanmckhlpiaaDoorW.PrintMore Go.Proofs.YtcijanmckhlpiaaDoor.PPaintLines
set_option linter.unusedVariables false
set_option linter.unusedSimpArgs false
namespace Paint
def awL : List PD := [(⟨#[97]⟩, ⟨#[120]⟩), (⟨#[98]⟩, ⟨#[121]⟩)]
def awT : List S100 := [⟨⟨#[97]⟩, true, ⟨#[]⟩, 0, 3, 1, -1⟩, ⟨⟨#[98]⟩, false, ⟨#[]⟩, 1, 2, 0, 0⟩]
theorem aw_line_a : lineS ⟨#[97]⟩ awL = some ⟨#[120]⟩ := by simp [lineS, awL, ByteArray.toList_eq]
theorem aw_line_b : lineS ⟨#[98]⟩ awL = some ⟨#[121]⟩ := by simp [lineS, awL, ByteArray.toList_eq]
theorem aw_path0 : pathAll awT 0 = [0] := by decide
theorem aw_path1 : pathAll awT 1 = [0, 1] := by decide
theorem aw_path2 : pathAll awT 2 = [0] := by decide
theorem aw_cls0 : classAll awL awT 0 = ⟨#[120]⟩ := by
  unfold classAll
  rw [if_neg (by decide), aw_path0]
  show (match lineS ⟨#[97]⟩ awL with | some c => c | none => _) = _
  rw [aw_line_a]
theorem aw_cls1 : classAll awL awT 1 = ⟨#[121]⟩ := by
  unfold classAll
  rw [if_neg (by decide), aw_path1]
  show (match lineS ⟨#[98]⟩ awL with | some c => c | none => _) = _
  rw [aw_line_b]
theorem aw_cls2 : classAll awL awT 2 = ⟨#[120]⟩ := by
  unfold classAll
  rw [if_neg (by decide), aw_path2]
  show (match lineS ⟨#[97]⟩ awL with | some c => c | none => _) = _
  rw [aw_line_a]
theorem GoodP.uniq {t : List S100} {P Q : List Int} (h : GoodP t P) (k : GoodP t Q) : P = Q := by
  have n1 : P.Nodup := h.up.imp fun {a b} (hab : a < b) => by omega
  have n2 : Q.Nodup := k.up.imp fun {a b} (hab : a < b) => by omega
  refine List.Perm.eq_of_pairwise (le := fun a b : Int => a < b) (fun a b _ _ h1 h2 => by omega) h.up k.up ((List.perm_ext_iff_of_nodup n1 n2).2 fun x => by rw [h.mem, k.mem])
theorem aw_good : GoodP awT [0, 1, 2, 3] := ⟨by decide, fun x => by simp [awT, plc]; omega⟩
theorem aw_spans {P : List Int} (h : GoodP awT P) : spansS awL awT P = [⟨0, 1, ⟨#[120]⟩⟩, ⟨1, 2, ⟨#[121]⟩⟩, ⟨2, 3, ⟨#[120]⟩⟩] := by
  rw [h.uniq aw_good]
  unfold spansS
  simp only [spansGo, aw_cls0, aw_cls1, aw_cls2]
  simp [stepS, rd_T61, ByteArray.toList_eq]
theorem kPD_row2 {W : World} {b : Nat} {p q r s : ByteArray} (h : W.heap[b]? = some (Obj.cells #[.string p, .string q, .string r, .string s] 42 (0, 0))) : kPD.C W (some ⟨b, 0, none⟩) 2 [(p, q), (r, s)] := by
  refine ⟨rfl, by decide, fun _ => ⟨⟨b, 0, none⟩, rfl, fun j x hj => ?_⟩⟩
  match j with
  | 0 =>
    simp at hj
    subst hj
    refine ⟨[.string p, .string q], rfl, ⟨_, _, rfl, rfl, rfl⟩, fun k u hu => ?_⟩
    rw [add_plain]
    refine (blk_cell h _).trans ?_
    match k with
    | 0 => exact hu
    | 1 => exact hu
    | k + 2 => simp at hu
  | 1 =>
    simp at hj
    subst hj
    refine ⟨[.string r, .string s], rfl, ⟨_, _, rfl, rfl, rfl⟩, fun k u hu => ?_⟩
    rw [add_plain]
    refine (blk_cell h _).trans ?_
    match k with
    | 0 => exact hu
    | 1 => exact hu
    | k + 2 => simp at hu
  | j + 2 => simp at hj
theorem k100_row2 {W : World} {b : Nat} {x y : S100} (h : W.heap[b]? = some (Obj.cells #[.string x.f0, .bool x.f1, .string x.f2, .int .i64 x.f3, .int .i64 x.f4, .int .i64 x.f5, .int .i64 x.f6, .string y.f0, .bool y.f1, .string y.f2, .int .i64 y.f3, .int .i64 y.f4, .int .i64 y.f5, .int .i64 y.f6] 100 (0, 0))) : k100.C W (some ⟨b, 0, none⟩) 2 [x, y] := by
  refine ⟨rfl, by decide, fun _ => ⟨⟨b, 0, none⟩, rfl, fun j z hj => ?_⟩⟩
  match j with
  | 0 =>
    simp at hj
    subst hj
    refine ⟨_, rfl, k100_mk _ _, fun k u hu => ?_⟩
    rw [add_plain]
    refine (blk_cell h _).trans ?_
    match k with
    | 0 => exact hu
    | 1 => exact hu
    | 2 => exact hu
    | 3 => exact hu
    | 4 => exact hu
    | 5 => exact hu
    | 6 => exact hu
    | k + 7 => simp at hu
  | 1 =>
    simp at hj
    subst hj
    refine ⟨_, rfl, k100_mk _ _, fun k u hu => ?_⟩
    rw [add_plain]
    refine (blk_cell h _).trans ?_
    match k with
    | 0 => exact hu
    | 1 => exact hu
    | 2 => exact hu
    | 3 => exact hu
    | 4 => exact hu
    | 5 => exact hu
    | 6 => exact hu
    | k + 7 => simp at hu
  | j + 2 => simp at hj
attribute [local go_sem high] eqA61
set_option maxRecDepth 100000 in
set_option maxHeartbeats 4000000 in
theorem awake_any (w : World) : Calls Tryd.prog 13 #[] w fun e w' => e = .returned (.bool true) ∧ Below w.heap.size w w' := by
  have HX := Lib.hid (blk_new w (.cells #[.string ⟨#[97]⟩, .string ⟨#[120]⟩, .string ⟨#[98]⟩, .string ⟨#[121]⟩] 42))
  have HB := Lib.hid (below_alloc (Below.refl _ w) (.cells #[.string ⟨#[97]⟩, .string ⟨#[120]⟩, .string ⟨#[98]⟩, .string ⟨#[121]⟩] 42))
  have HCL : Hid (kPD.C (w.alloc (.cells #[.string ⟨#[97]⟩, .string ⟨#[120]⟩, .string ⟨#[98]⟩, .string ⟨#[121]⟩] 42)) (some ⟨w.heap.size, 0, none⟩) 2 awL) := kPD_row2 HX.out
  go_enter Tryd.func13, Tryd.ntmps13
  have tok : True := trivial
  go_wp2_with fail
  refine (show Calls Tryd.prog 17 #[.slice (some ⟨w.heap.size, 0, none⟩) 2 2] _ fun e w' => ∃ A' c', e = .returned (LG (.slice A' 2 c')) ∧ 2 ≤ c' ∧ kPD.C w' A' 2 awL ∧ Below _ _ w' from lang_any (some ⟨w.heap.size, 0, none⟩) 2 awL _ HCL.out (by decide)).mono ?_
  rintro e W1 ⟨A, c, rfl, hc, hC, hb⟩
  have HCA := Lib.hid hC
  have HB1 := Lib.hid (below_step HB.out hb)
  clear hC hb HX HB HCL
  unfold LG
  have HX1 := Lib.hid (blk_alloc (blk_new W1 (.cells #[.string ⟨#[]⟩, .slice none 0 0, .slice none 0 0, .slice none 0 0, .slice none 0 0, .slice none 0 0, .slice none 0 0, .slice none 0 0, .slice A 2 c, .slice none 0 0, .slice none 0 0, .slice none 0 0] 57)) (.cells #[.string ⟨#[97]⟩, .bool true, .string ⟨#[]⟩, .int .i64 0, .int .i64 3, .int .i64 1, .int .i64 (-1), .string ⟨#[98]⟩, .bool false, .string ⟨#[]⟩, .int .i64 1, .int .i64 2, .int .i64 0, .int .i64 0] 100))
  have HT1 := Lib.hid (blk_new (W1.alloc (.cells #[.string ⟨#[]⟩, .slice none 0 0, .slice none 0 0, .slice none 0 0, .slice none 0 0, .slice none 0 0, .slice none 0 0, .slice none 0 0, .slice A 2 c, .slice none 0 0, .slice none 0 0, .slice none 0 0] 57)) (.cells #[.string ⟨#[97]⟩, .bool true, .string ⟨#[]⟩, .int .i64 0, .int .i64 3, .int .i64 1, .int .i64 (-1), .string ⟨#[98]⟩, .bool false, .string ⟨#[]⟩, .int .i64 1, .int .i64 2, .int .i64 0, .int .i64 0] 100))
  have HB2 := Lib.hid (below_alloc (below_alloc HB1.out (.cells #[.string ⟨#[]⟩, .slice none 0 0, .slice none 0 0, .slice none 0 0, .slice none 0 0, .slice none 0 0, .slice none 0 0, .slice none 0 0, .slice A 2 c, .slice none 0 0, .slice none 0 0, .slice none 0 0] 57)) (.cells #[.string ⟨#[97]⟩, .bool true, .string ⟨#[]⟩, .int .i64 0, .int .i64 3, .int .i64 1, .int .i64 (-1), .string ⟨#[98]⟩, .bool false, .string ⟨#[]⟩, .int .i64 1, .int .i64 2, .int .i64 0, .int .i64 0] 100))
  have HCA2 : Hid (kPD.C ((W1.alloc (.cells #[.string ⟨#[]⟩, .slice none 0 0, .slice none 0 0, .slice none 0 0, .slice none 0 0, .slice none 0 0, .slice none 0 0, .slice none 0 0, .slice A 2 c, .slice none 0 0, .slice none 0 0, .slice none 0 0] 57)).alloc (.cells #[.string ⟨#[97]⟩, .bool true, .string ⟨#[]⟩, .int .i64 0, .int .i64 3, .int .i64 1, .int .i64 (-1), .string ⟨#[98]⟩, .bool false, .string ⟨#[]⟩, .int .i64 1, .int .i64 2, .int .i64 0, .int .i64 0] 100)) A 2 awL) := Kd.C_alloc (Kd.C_alloc HCA.out _) _
  have HCT : Hid (k100.C ((W1.alloc (.cells #[.string ⟨#[]⟩, .slice none 0 0, .slice none 0 0, .slice none 0 0, .slice none 0 0, .slice none 0 0, .slice none 0 0, .slice none 0 0, .slice A 2 c, .slice none 0 0, .slice none 0 0, .slice none 0 0] 57)).alloc (.cells #[.string ⟨#[97]⟩, .bool true, .string ⟨#[]⟩, .int .i64 0, .int .i64 3, .int .i64 1, .int .i64 (-1), .string ⟨#[98]⟩, .bool false, .string ⟨#[]⟩, .int .i64 1, .int .i64 2, .int .i64 0, .int .i64 0] 100)) (some ⟨(W1.alloc (.cells #[.string ⟨#[]⟩, .slice none 0 0, .slice none 0 0, .slice none 0 0, .slice none 0 0, .slice none 0 0, .slice none 0 0, .slice none 0 0, .slice A 2 c, .slice none 0 0, .slice none 0 0, .slice none 0 0] 57)).heap.size, 0, none⟩) 2 awT) := k100_row2 HT1.out
  have hsz1 : (W1.alloc (.cells #[.string ⟨#[]⟩, .slice none 0 0, .slice none 0 0, .slice none 0 0, .slice none 0 0, .slice none 0 0, .slice none 0 0, .slice none 0 0, .slice A 2 c, .slice none 0 0, .slice none 0 0, .slice none 0 0] 57)).heap.size = W1.heap.size + 1 := World.size_alloc _ _
  rw [hsz1] at HCT
  clear hsz1 HT1 HB1 HCA
  have hx0 := blk_cell HX1.out 0
  have hx1 := blk_cell HX1.out 1
  have hx2 := blk_cell HX1.out 2
  have hx3 := blk_cell HX1.out 3
  have hx4 := blk_cell HX1.out 4
  have hx5 := blk_cell HX1.out 5
  have hx6 := blk_cell HX1.out 6
  have hx7 := blk_cell HX1.out 7
  have hx8 := blk_cell HX1.out 8
  have hx9 := blk_cell HX1.out 9
  have hx10 := blk_cell HX1.out 10
  have hx11 := blk_cell HX1.out 11
  go_wp2_with fail
  clear hx0 hx1 hx2 hx3 hx4 hx5 hx6 hx7 hx8 hx9 hx10 hx11
  generalize (W1.alloc (.cells #[.string ⟨#[]⟩, .slice none 0 0, .slice none 0 0, .slice none 0 0, .slice none 0 0, .slice none 0 0, .slice none 0 0, .slice none 0 0, .slice A 2 c, .slice none 0 0, .slice none 0 0, .slice none 0 0] 57)).alloc (.cells #[.string ⟨#[97]⟩, .bool true, .string ⟨#[]⟩, .int .i64 0, .int .i64 3, .int .i64 1, .int .i64 (-1), .string ⟨#[98]⟩, .bool false, .string ⟨#[]⟩, .int .i64 1, .int .i64 2, .int .i64 0, .int .i64 0] 100) = W2 at *
  have hn : ∀ x ∈ awL, x.1.size ≤ maxLen := by decide
  have hk : ∀ x ∈ awT, x.f5 ≤ 9223372036854775807 := by decide
  have hs : ∀ x ∈ awT, x.f0.size ≤ maxLen := by decide
  have hp : ∀ x ∈ awT, (Lit.int .i64 x.f3).wf = true ∧ (Lit.int .i64 x.f4).wf = true := by decide
  have HCL : Hid (∀ W a, kPD.C W A 2 awL → k100.C W (some ⟨W1.heap.size + 1, 0, none⟩) 2 awT → Calls Tryd.prog 35 #[LG (.slice A 2 c), .slice (some ⟨W1.heap.size + 1, 0, none⟩) 2 2, .int .i64 a] W fun e w' => e = .returned (.string (classAll awL awT a)) ∧ Below W.heap.size W w') := fun W a h1 h2 => Class_any A c awL _ 2 awT a W h1 (by decide) h2 (by decide) (by decide) hn hk hs
  refine (show Calls Tryd.prog 16 #[.agg _, .slice (some ⟨W1.heap.size + 1, 0, none⟩) 2 2] W2 _ from spans_any A c awL (some ⟨W1.heap.size + 1, 0, none⟩) 2 awT W2 HCA2.out (by decide) HCT.out (by decide) (by decide) hn hk hs hp).mono ?_
  rintro e W3 ⟨P, v, hg, rfl, hR, hb⟩
  rw [aw_spans hg] at hR
  obtain ⟨As, cs, rfl, hcs, hCs⟩ := Kd.R_reads hR
  obtain ⟨ad, rfl, s0, s1, s2⟩ := at_T61 hCs 0 (by decide) (by decide)
  have e0 : ad.add (Int.toNat 0 * 3) = ad := by simp [Addr.add]
  rw [e0] at s0 s1 s2
  have HS0 : Hid (W3.cell? ad = some (.int .i64 0)) := s0
  have HS1 : Hid (W3.cell? ⟨ad.block, ad.off + 1, none⟩ = some (.int .i64 1)) := s1
  have HS2 : Hid (W3.cell? ⟨ad.block, ad.off + 2, none⟩ = some (.string ⟨#[120]⟩)) := s2
  clear e0
  have HX3 := Lib.hid (blk_below HX1.out hb)
  have HB3 := Lib.hid (below_step HB2.out hb)
  have HCA3 := Lib.hid (Kd.C_below HCA2.out hb)
  have HCT3 := Lib.hid (Kd.C_below HCT.out hb)
  clear hR hCs hcs hb hn hk hs hp hg s0 s1 s2 HX1 HB2 HCA2 HCT
  unfold LG at *
  have hx0 := blk_cell HX3.out 0
  have hx1 := blk_cell HX3.out 1
  have hx2 := blk_cell HX3.out 2
  have hx3 := blk_cell HX3.out 3
  have hx4 := blk_cell HX3.out 4
  have hx5 := blk_cell HX3.out 5
  have hx6 := blk_cell HX3.out 6
  have hx7 := blk_cell HX3.out 7
  have hx8 := blk_cell HX3.out 8
  have hx9 := blk_cell HX3.out 9
  have hx10 := blk_cell HX3.out 10
  have hx11 := blk_cell HX3.out 11
  go_wp2_with fail
  clear hx0 hx1 hx2 hx3 hx4 hx5 hx6 hx7 hx8 hx9 hx10 hx11
  refine (HCL.out W3 1 HCA3.out HCT3.out).mono ?_
  rintro e W4 ⟨rfl, hb⟩
  rw [aw_cls1]
  have HX4 := Lib.hid (blk_below HX3.out hb)
  have HB4 := Lib.hid (below_step HB3.out hb)
  have HCA4 := Lib.hid (Kd.C_below HCA3.out hb)
  have HCT4 := Lib.hid (Kd.C_below HCT3.out hb)
  have HS0' := Lib.hid (pw_cell_below hb HS0.out)
  have HS1' := Lib.hid (pw_cell_below hb HS1.out)
  have HS2' := Lib.hid (pw_cell_below hb HS2.out)
  clear hb HX3 HB3 HCA3 HCT3 HS0 HS1 HS2
  have hy1 : ((⟨#[121]⟩ : ByteArray).toList == (⟨#[121]⟩ : ByteArray).toList) = true := beq_self_eq_true _
  have hx0 := blk_cell HX4.out 0
  have hx1 := blk_cell HX4.out 1
  have hx2 := blk_cell HX4.out 2
  have hx3 := blk_cell HX4.out 3
  have hx4 := blk_cell HX4.out 4
  have hx5 := blk_cell HX4.out 5
  have hx6 := blk_cell HX4.out 6
  have hx7 := blk_cell HX4.out 7
  have hx8 := blk_cell HX4.out 8
  have hx9 := blk_cell HX4.out 9
  have hx10 := blk_cell HX4.out 10
  have hx11 := blk_cell HX4.out 11
  go_wp2_with fail
  clear hx0 hx1 hx2 hx3 hx4 hx5 hx6 hx7 hx8 hx9 hx10 hx11
  refine (HCL.out W4 2 HCA4.out HCT4.out).mono ?_
  rintro e W5 ⟨rfl, hb⟩
  rw [aw_cls2]
  have HB5 := Lib.hid (below_step HB4.out hb)
  have s0 := pw_cell_below hb HS0'.out
  have s1 := pw_cell_below hb HS1'.out
  have s2 := pw_cell_below hb HS2'.out
  clear hb HX4 HB4 HCA4 HCT4 HS0' HS1' HS2'
  have hy2 : ((⟨#[120]⟩ : ByteArray).toList == (⟨#[120]⟩ : ByteArray).toList) = true := beq_self_eq_true _
  go_wp2_with fail
  go_ret
  exact ⟨rfl, HB5.out⟩
end Paint
end Go.Proofs.YtcijanmckhlpiaaDoor
