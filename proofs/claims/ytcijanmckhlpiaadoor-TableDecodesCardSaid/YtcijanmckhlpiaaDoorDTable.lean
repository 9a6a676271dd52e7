import Derived.Test.YtcijanmckhlpiaaDoorDSt
namespace Go.Proofs.YtcijanmckhlpiaaDoor
open Go.RowKit Go.Proofs.YtcijanmckhlpiaaDoorW.PrintWords Go.Proofs.YtcijanmckhlpiaaDoorW.PrintLast Go.Proofs.YtcijanmckhlpiaaDoorW.PrintMore Go.Proofs.YtcijanmckhlpiaaDoor.PTableDecodes
set_option linter.unusedVariables false
set_option linter.unusedSimpArgs false
namespace Dec
theorem info93 : (Tryd.prog.info? 93).map (fun i => (i.zero, i.size, i.bytes)) = some (some (.agg #[.int .i64 0, .int .i64 0]), 2, 16) := by kernel_rfl
theorem info90 : (Tryd.prog.info? 90).map (fun i => (i.zero, i.size, i.bytes)) = some (some (.slice none 0 0), 1, 24) := by kernel_rfl
theorem info95 : (Tryd.prog.info? 95).map (fun i => (i.zero, i.size, i.bytes)) = some (some (.slice none 0 0), 1, 24) := by kernel_rfl
theorem info3 : (Tryd.prog.info? 3).map (fun i => (i.zero, i.size, i.bytes)) = some (some (.int .i64 0), 1, 8) := by kernel_rfl
theorem C_one93 {W : World} {b : Nat} {p q : Int} (h : W.heap[b]? = some (Obj.cells #[.int .i64 p, .int .i64 q] 93 (0, 0))) : k93.C W (some ⟨b, 0, none⟩) 1 [⟨p, q⟩] := by
  refine ⟨rfl, by decide, fun _ => ⟨⟨b, 0, none⟩, rfl, fun j x hj => ?_⟩⟩
  match j with
  | 0 =>
    simp at hj
    subst hj
    refine ⟨[.int .i64 p, .int .i64 q], rfl, k93_mk _ _, fun k u hu => ?_⟩
    rw [add_plain]
    refine (blk_cell h _).trans ?_
    match k with
    | 0 => exact hu
    | 1 => exact hu
    | k + 2 => simp at hu
  | j + 1 => simp at hj
theorem C_one3 {W : World} {b : Nat} {p : Int} (h : W.heap[b]? = some (Obj.cells #[.int .i64 p] 3 (0, 0))) : kI.C W (some ⟨b, 0, none⟩) 1 [p] := by
  refine ⟨rfl, by decide, fun _ => ⟨⟨b, 0, none⟩, rfl, fun j x hj => ?_⟩⟩
  match j with
  | 0 =>
    simp at hj
    subst hj
    refine ⟨[.int .i64 p], rfl, rfl, fun k u hu => ?_⟩
    rw [add_plain]
    refine (blk_cell h _).trans ?_
    match k with
    | 0 => exact hu
    | k + 1 => simp at hu
  | j + 1 => simp at hj
theorem typed_of {α : Type} {d : Kd α} {e b : Nat} {ok : Nat → Prop} {W : World} {v : Value} {xs : List α} (h : d.R e W b ok v xs) : ∀ k, v.ownBlock = some k → ∃ cells, W.heap[k]? = some (.cells cells e (0, 0)) := by
  obtain ⟨inner, ho⟩ := Kd.R_own h
  exact fun k hk => own_typed ho k hk
theorem k93_E : ∀ t : Nat, t ≠ 93 → ∀ q, q ∈ 93 :: k93.E → q ≠ t := by
  intro t ht q hq
  have : q = 93 := by simpa [k93, Kd.iso, Kd.pair, Kd.int, Kd.scalar] using hq
  subst this; exact fun e => ht e.symm
theorem kI_E : ∀ t : Nat, t ≠ 3 → ∀ q, q ∈ 3 :: kI.E → q ≠ t := by
  intro t ht q hq
  have : q = 3 := by simpa [kI, Kd.int, Kd.scalar] using hq
  subst this; exact fun e => ht e.symm
abbrev fixT (N : Nat) (n0 n1 n2 : Nat) : List (Nat × Array Value × Nat) := [(N, #[.slice none 0 0, .slice none 0 0], 25), (N + 1, #[.int .i64 (n0 : Int), .int .i64 (n1 : Int), .int .i64 (n2 : Int)], 131)]
abbrev rdC (s : ByteArray) (q : Nat) : Array Value := #[.string s, .int .i64 (q : Int)]
abbrev sizes6 : Value := .agg #[.int .i64 1, .int .i64 2048, .int .i64 1, .int .i64 64, .int .i64 0, .int .i64 128]
theorem ixs0 (W : World) : (Instr.index 132 sizes6 (.int .i64 0)).run Tryd.prog W = .ok (.agg #[.int .i64 1, .int .i64 2048]) W := by kernel_rfl
theorem ixs1 (W : World) : (Instr.index 132 sizes6 (.int .i64 1)).run Tryd.prog W = .ok (.agg #[.int .i64 1, .int .i64 64]) W := by kernel_rfl
theorem ixs2 (W : World) : (Instr.index 132 sizes6 (.int .i64 2)).run Tryd.prog W = .ok (.agg #[.int .i64 0, .int .i64 128]) W := by kernel_rfl
theorem plain131 : plainT 131 := by unfold plainT; decide
theorem IsBad.alloc {w W : World} {p : Nat} {ev : Value} (h : IsBad w W p ev) (o : Obj) : IsBad w (W.alloc o) p ev := by
  obtain ⟨b, h1, h2, h3⟩ := h
  exact ⟨b, h1, h2, blk_alloc h3 o⟩
theorem stop_ {p : Prop} (h : Hid p) : p := h.out
abbrev nilS : Value := .slice none 0 0
/-- What the image's reading ends with. -/
def TabE (o : Except Nat (List (List S93) × List (List Int))) (w0 w w' : World) (e : Ending) : Prop := match o with
  | .error p => ∃ ev, e = .returned (.tuple #[.agg #[nilS, nilS], ev]) ∧ IsBad w w' p ev
  | .ok r => ∃ vA vG, e = .returned (.tuple #[.agg #[vA, vG], .nilIface]) ∧ kA.R 90 w' w0.heap.size tru vA r.1 ∧ kG.R 95 w' w0.heap.size tru vG r.2
set_option maxRecDepth 100000 in
set_option maxHeartbeats 4000000 in
theorem table_any (s : ByteArray) (g p : Nat) (w0 w : World) (hI : IsR w0 w g s p) (hB : Below w0.heap.size w0 w) (hs : s.size ≤ 140737488351232) (hp : p ≤ s.size) :
    Calls Tryd.prog 29 #[.pointer (some ⟨g, 0, none⟩)] w fun e w' => Below w0.heap.size w0 w' ∧ TabE (tabS s p) w0 w w' e := by
  have HR : Hid (Rel w0 w w g s p) := ⟨hI, hB, KeepBut.refl _ _ _⟩
  have hgl : g < w.heap.size := blk_lt hI.1
  have hwl : w0.heap.size ≤ w.heap.size := hB.size
  have hgw : w0.heap.size ≤ g := hI.2
  clear hI hB
  go_enter Tryd.func29, Tryd.ntmps29
  go_wp2_with fail
  have HR1 := Lib.hid ((HR.out.alloc (.cells #[nilS, nilS] 25)).alloc (.cells #[.int .i64 0, .int .i64 0, .int .i64 0] 131))
  have HX := Lib.hid (blk_alloc (blk_new w (.cells #[nilS, nilS] 25)) (.cells #[.int .i64 0, .int .i64 0, .int .i64 0] 131))
  have hY := blk_new (w.alloc (.cells #[nilS, nilS] 25)) (.cells #[.int .i64 0, .int .i64 0, .int .i64 0] 131)
  rw [World.size_alloc] at hY
  have HY := Lib.hid hY
  have HD0 : Hid (HD s p 0 0 0 0 p) := Lib.hid ⟨rfl, rfl, rfl, rfl⟩
  clear HR hY
  go_loopw [20] (fun v w' => ∃ (i q : Nat) (x0 x1 x2 : Int), v = .int .i64 (i : Int) ∧ i ≤ 3 ∧ q ≤ s.size ∧ Hid (Rel w0 w w' g s q) ∧ Hid (w'.heap[w.heap.size]? = some (.cells #[nilS, nilS] 25 (0, 0))) ∧ Hid (w'.heap[w.heap.size + 1]? = some (.cells #[.int .i64 x0, .int .i64 x1, .int .i64 x2] 131 (0, 0))) ∧ Hid (HD s p i x0 x1 x2 q)) (fun v _ => 3 - (intOf v).toNat)
  case atStart => exact ⟨0, p, 0, 0, 0, rfl, by omega, hp, HR1, HX, HY, HD0⟩
  case round =>
    clear HR1 HX HY HD0
    obtain ⟨i, q, x0, x1, x2, rfl, hi, hq, HR, HX, HY, HH⟩ := hrel
    have hsz : w.heap.size + 1 < wr.heap.size := blk_lt HY.out
    match i, hi with
    | 0, _ =>
      have hix := ixs0 wr
      have HRa := Lib.hid (HR.out.alloc (.cells #[.int .i64 1, .int .i64 2048] 106))
      have HXa := Lib.hid (blk_alloc HX.out (.cells #[.int .i64 1, .int .i64 2048] 106))
      have HYa := Lib.hid (blk_alloc HY.out (.cells #[.int .i64 1, .int .i64 2048] 106))
      go_wp2_with fail
      refine (within_any s g q 1 2048 w0 _ HRa.out.is HRa.out.below hs hq).mono ?_
      rintro e w1 ⟨q1, hq1, hR, hW⟩
      have HR1 := Lib.hid (HRa.out.trans hR)
      have HX1 := Lib.hid (hR.keep.blk HXa.out (by omega) (by simp))
      have HY1 := Lib.hid (hR.keep.blk HYa.out (by omega) (by simp))
      have hsz1 := hR.size
      rw [World.size_alloc] at hsz1
      clear hR HR HX HY HRa HXa HYa hix
      have hx0 := blk_cell HX1.out 0
      have hx1 := blk_cell HX1.out 1
      have hx2 := blk_frozen HX1.out 0
      have hx3 := blk_frozen HX1.out 1
      have hy0 := blk_cell HY1.out 0
      have hy1 := blk_cell HY1.out 1
      have hy2 := blk_cell HY1.out 2
      have hf0 := blk_frozen HY1.out 0
      have hf1 := blk_frozen HY1.out 1
      have hf2 := blk_frozen HY1.out 2
      simp at hx0 hx1 hy0 hy1 hy2
      rcases hw : within s 1 2048 q with _ | ⟨n, qn⟩
      · rw [hw] at hW
        obtain ⟨ev, rfl, hbad⟩ := hW
        have HT := Lib.hid (HD.bad0 HH.out hw)
        have HBad := Lib.hid ((hbad.far (k := w.heap.size) (j := 0) (by rw [World.size_alloc]; omega) nilS).far (k := w.heap.size) (j := 1) (by rw [World.size_alloc]; omega) nilS)
        obtain ⟨b, hb1, rfl, hb2⟩ := hbad
        clear hb1 hb2 hw HH
        go_wp2_with fail
        refine bodyPost_ret (results_ct rfl _ _ w.heap.size 25 #[nilS, nilS] (0, 0) _ rfl (blk_put (cs' := #[nilS, nilS]) (blk_put (cs' := #[nilS, nilS]) HX1.out 0 _ rfl) 1 _ rfl) Tryd.underlying25 rfl (by kernel_rfl)) rfl ?_
        exact ⟨((HR1.out.far hwl hgl (Nat.le_refl _) _).far hwl hgl (Nat.le_refl _) _).below, by rw [HT.out]; exact ⟨_, rfl, HBad.out.before (by rw [World.size_alloc]; omega)⟩⟩
      · rw [hw] at hW
        have hwb := within_bound hw
        obtain ⟨rfl, rfl⟩ := hW
        have HH2 : Hid (HD s p 1 n x1 x2 q1) := Lib.hid (by
          have h := HH.out
          obtain ⟨rfl, rfl, rfl, rfl⟩ := h; exact ⟨hw, rfl, rfl⟩)
        clear hw HH
        go_wp2_with fail
        go_roundw
        case rel => exact ⟨1, q1, n, x1, x2, rfl, by omega, hq1, HR1.out.far hwl hgl (by omega) _, blk_far HX1.out (by show w.heap.size ≠ w.heap.size + 1; omega) _, blk_put HY1.out 0 _ rfl, HH2⟩
        case measure => simp [intOf]
    | 1, _ =>
      have hix := ixs1 wr
      have HRa := Lib.hid (HR.out.alloc (.cells #[.int .i64 1, .int .i64 64] 106))
      have HXa := Lib.hid (blk_alloc HX.out (.cells #[.int .i64 1, .int .i64 64] 106))
      have HYa := Lib.hid (blk_alloc HY.out (.cells #[.int .i64 1, .int .i64 64] 106))
      go_wp2_with fail
      refine (within_any s g q 1 64 w0 _ HRa.out.is HRa.out.below hs hq).mono ?_
      rintro e w1 ⟨q1, hq1, hR, hW⟩
      have HR1 := Lib.hid (HRa.out.trans hR)
      have HX1 := Lib.hid (hR.keep.blk HXa.out (by omega) (by simp))
      have HY1 := Lib.hid (hR.keep.blk HYa.out (by omega) (by simp))
      have hsz1 := hR.size
      rw [World.size_alloc] at hsz1
      clear hR HR HX HY HRa HXa HYa hix
      have hx0 := blk_cell HX1.out 0
      have hx1 := blk_cell HX1.out 1
      have hx2 := blk_frozen HX1.out 0
      have hx3 := blk_frozen HX1.out 1
      have hy0 := blk_cell HY1.out 0
      have hy1 := blk_cell HY1.out 1
      have hy2 := blk_cell HY1.out 2
      have hf0 := blk_frozen HY1.out 0
      have hf1 := blk_frozen HY1.out 1
      have hf2 := blk_frozen HY1.out 2
      simp at hx0 hx1 hy0 hy1 hy2
      rcases hw : within s 1 64 q with _ | ⟨n, qn⟩
      · rw [hw] at hW
        obtain ⟨ev, rfl, hbad⟩ := hW
        have HT := Lib.hid (HD.bad1 HH.out hw)
        have HBad := Lib.hid ((hbad.far (k := w.heap.size) (j := 0) (by rw [World.size_alloc]; omega) nilS).far (k := w.heap.size) (j := 1) (by rw [World.size_alloc]; omega) nilS)
        obtain ⟨b, hb1, rfl, hb2⟩ := hbad
        clear hb1 hb2 hw HH
        go_wp2_with fail
        refine bodyPost_ret (results_ct rfl _ _ w.heap.size 25 #[nilS, nilS] (0, 0) _ rfl (blk_put (cs' := #[nilS, nilS]) (blk_put (cs' := #[nilS, nilS]) HX1.out 0 _ rfl) 1 _ rfl) Tryd.underlying25 rfl (by kernel_rfl)) rfl ?_
        exact ⟨((HR1.out.far hwl hgl (Nat.le_refl _) _).far hwl hgl (Nat.le_refl _) _).below, by rw [HT.out]; exact ⟨_, rfl, HBad.out.before (by rw [World.size_alloc]; omega)⟩⟩
      · rw [hw] at hW
        have hwb := within_bound hw
        obtain ⟨rfl, rfl⟩ := hW
        have HH2 : Hid (HD s p 2 x0 n x2 q1) := Lib.hid (by
          have h := HH.out
          obtain ⟨h1, rfl, rfl⟩ := h; exact ⟨q, h1, hw, rfl⟩)
        clear hw HH
        go_wp2_with fail
        go_roundw
        case rel => exact ⟨2, q1, x0, n, x2, rfl, by omega, hq1, HR1.out.far hwl hgl (by omega) _, blk_far HX1.out (by show w.heap.size ≠ w.heap.size + 1; omega) _, blk_put HY1.out 1 _ rfl, HH2⟩
        case measure => simp [intOf]
    | 2, _ =>
      have hix := ixs2 wr
      have HRa := Lib.hid (HR.out.alloc (.cells #[.int .i64 0, .int .i64 128] 106))
      have HXa := Lib.hid (blk_alloc HX.out (.cells #[.int .i64 0, .int .i64 128] 106))
      have HYa := Lib.hid (blk_alloc HY.out (.cells #[.int .i64 0, .int .i64 128] 106))
      go_wp2_with fail
      refine (within_any s g q 0 128 w0 _ HRa.out.is HRa.out.below hs hq).mono ?_
      rintro e w1 ⟨q1, hq1, hR, hW⟩
      have HR1 := Lib.hid (HRa.out.trans hR)
      have HX1 := Lib.hid (hR.keep.blk HXa.out (by omega) (by simp))
      have HY1 := Lib.hid (hR.keep.blk HYa.out (by omega) (by simp))
      have hsz1 := hR.size
      rw [World.size_alloc] at hsz1
      clear hR HR HX HY HRa HXa HYa hix
      have hx0 := blk_cell HX1.out 0
      have hx1 := blk_cell HX1.out 1
      have hx2 := blk_frozen HX1.out 0
      have hx3 := blk_frozen HX1.out 1
      have hy0 := blk_cell HY1.out 0
      have hy1 := blk_cell HY1.out 1
      have hy2 := blk_cell HY1.out 2
      have hf0 := blk_frozen HY1.out 0
      have hf1 := blk_frozen HY1.out 1
      have hf2 := blk_frozen HY1.out 2
      simp at hx0 hx1 hy0 hy1 hy2
      rcases hw : within s 0 128 q with _ | ⟨n, qn⟩
      · rw [hw] at hW
        obtain ⟨ev, rfl, hbad⟩ := hW
        have HT := Lib.hid (HD.bad2 HH.out hw)
        have HBad := Lib.hid ((hbad.far (k := w.heap.size) (j := 0) (by rw [World.size_alloc]; omega) nilS).far (k := w.heap.size) (j := 1) (by rw [World.size_alloc]; omega) nilS)
        obtain ⟨b, hb1, rfl, hb2⟩ := hbad
        clear hb1 hb2 hw HH
        go_wp2_with fail
        refine bodyPost_ret (results_ct rfl _ _ w.heap.size 25 #[nilS, nilS] (0, 0) _ rfl (blk_put (cs' := #[nilS, nilS]) (blk_put (cs' := #[nilS, nilS]) HX1.out 0 _ rfl) 1 _ rfl) Tryd.underlying25 rfl (by kernel_rfl)) rfl ?_
        exact ⟨((HR1.out.far hwl hgl (Nat.le_refl _) _).far hwl hgl (Nat.le_refl _) _).below, by rw [HT.out]; exact ⟨_, rfl, HBad.out.before (by rw [World.size_alloc]; omega)⟩⟩
      · rw [hw] at hW
        have hwb := within_bound hw
        obtain ⟨rfl, rfl⟩ := hW
        have HH2 : Hid (HD s p 3 x0 x1 n q1) := Lib.hid (by
          have h := HH.out
          obtain ⟨q2, h1, h2, rfl⟩ := h; exact ⟨q2, q, h1, h2, hw⟩)
        clear hw HH
        go_wp2_with fail
        go_roundw
        case rel => exact ⟨3, q1, x0, x1, n, rfl, by omega, hq1, HR1.out.far hwl hgl (by omega) _, blk_far HX1.out (by show w.heap.size ≠ w.heap.size + 1; omega) _, blk_put HY1.out 2 _ rfl, HH2⟩
        case measure => simp [intOf]
    | 3, _ =>
      rw [show ((3 : Nat) : Int) = 3 from rfl]
      obtain ⟨hT, b0, b1, b2, b3, b4, b5⟩ := HH.out.all
      obtain ⟨n0, rfl⟩ := Int.eq_ofNat_of_zero_le (show 0 ≤ x0 by omega)
      obtain ⟨n1, rfl⟩ := Int.eq_ofNat_of_zero_le (show 0 ≤ x1 by omega)
      obtain ⟨n2, rfl⟩ := Int.eq_ofNat_of_zero_le (show 0 ≤ x2 by omega)
      have HT := Lib.hid hT
      clear hT HH
      have hy0 := blk_cell HY.out 0
      simp at hy0
      have HS : Hid (St w0 (wr.alloc (.cells #[nilS, nilS] 25)) g (rdC s q) 83 wr.heap.size #[nilS, nilS] (fixT w.heap.size n0 n1 n2) nilS nilS nilS [] []) := Lib.hid {
        below := (HR.out.alloc _).below
        rd := (HR.out.alloc _).is.1
        rtp := by unfold plainT; decide
        tb := blk_new _ _
        ge := ⟨hgw, by omega, by have := blk_lt HR.out.is.1; omega⟩
        fixed := by
          intro f hf
          simp only [fixT, List.mem_cons, List.not_mem_nil, or_false] at hf
          rcases hf with rfl | rfl
          · exact ⟨blk_alloc HX.out _, plain25, by show w.heap.size ≠ g; omega, by show w.heap.size ≠ wr.heap.size; omega⟩
          · exact ⟨blk_alloc HY.out _, plain131, by show w.heap.size + 1 ≠ g; omega, by show w.heap.size + 1 ≠ wr.heap.size; omega⟩
        rA := Kd.R_apart_nil (Kd.R_nil _ _ _ _ _)
        rG := Kd.R_apart_nil (Kd.R_nil _ _ _ _ _) }
      have hbT : w.heap.size + 1 < wr.heap.size := hsz
      go_wp2_with fail
      clear hy0 HX HY HR hsz
      generalize hW3 : wr.alloc (.cells #[nilS, nilS] 25) = w3 at *
      generalize hbT2 : wr.heap.size = bT at *
      clear hW3 hbT2
      go_loopw [43] (fun v w' => ∃ (j q' : Nat) (vA : Value) (rows : List (List S93)), v = .int .i64 (j : Int) ∧ j ≤ n0 ∧ q' ≤ s.size ∧ Hid (rows.length = j) ∧ Hid (St w0 w' g (rdC s q') 83 bT #[vA, nilS] (fixT w.heap.size n0 n1 n2) nilS vA nilS rows []) ∧ Hid (cat rows (many (many (actR s n0) n1) (n0 - j) q') = many (many (actR s n0) n1) n0 q)) (fun v _ => n0 - (intOf v).toNat)
      case atStart => exact ⟨0, q, nilS, [], rfl, Nat.zero_le _, hq, Lib.hid rfl, HS, Lib.hid (by rw [Nat.sub_zero, cat_nil])⟩
      case round =>
        clear HS
        obtain ⟨j, qA, vA, rows, rfl, hj, hqA, hrl, HS, HC⟩ := hrel
        by_cases hjn : j < n0
        · have hjb : decide ((j : Int) < (n0 : Int)) = true := decide_eq_true (by omega)
          have hjw : IntKind.i64.wrap ((j : Int) + 1) = (j : Int) + 1 := IntWalk.i64_in _ (by omega)
          have hy1 := blk_cell (HS.out.fixed _ (List.mem_cons_of_mem _ List.mem_cons_self)).1 1
          simp at hy1
          go_wp2_with fail
          clear hy1
          have HRl : Hid (k93.R 93 wr w0.heap.size tru nilS []) := Kd.R_nil _ _ _ _ _
          go_loopw [47, 10] (fun v vl w' => ∃ (k q2 : Nat) (row : List S93), v = .int .i64 (k : Int) ∧ k ≤ n1 ∧ q2 ≤ s.size ∧ Hid (row.length = k) ∧ Hid (St w0 w' g (rdC s q2) 83 bT #[vA, nilS] (fixT w.heap.size n0 n1 n2) vl vA nilS rows []) ∧ Hid (k93.R 93 w' w0.heap.size tru vl row) ∧ Hid (cat row (many (actR s n0) (n1 - k) q2) = many (actR s n0) n1 qA)) (fun v _ _ => n1 - (intOf v).toNat)
          case atStart => exact ⟨0, qA, [], rfl, Nat.zero_le _, hqA, Lib.hid rfl, HS, HRl, Lib.hid (by rw [Nat.sub_zero, cat_nil])⟩
          case round =>
            clear HS HRl
            obtain ⟨k, q2, row, rfl, hk, hq2, hkl, HS, HRl, HCr⟩ := hrel
            by_cases hkn : k < n1
            · have hkb : decide ((k : Int) < (n1 : Int)) = true := decide_eq_true (by omega)
              have hkw : IntKind.i64.wrap ((k : Int) + 1) = (k : Int) + 1 := IntWalk.i64_in _ (by omega)
              have hy0 := blk_cell (HS.out.fixed _ (List.mem_cons_of_mem _ List.mem_cons_self)).1 0
              simp at hy0
              go_wp2_with fail
              refine (action_any s g q2 (n0 : Int) w0 _ ⟨HS.out.rd, hgw⟩ HS.out.below hs hq2 (by omega)).mono ?_
              rintro e w4 ⟨q3, hq3, hR, hA⟩
              have HS4 := Lib.hid (HS.out.call hR.keep hR.is.1 hR.below)
              have HRl4 : Hid (k93.R 93 w4 w0.heap.size tru u10 row) := Lib.hid (Kd.R_mono (Kd.R_keep (Kd.R_types HRl.out HS.out.rd (k93_E 83 (by decide))) hR.keep (fun _ hk => hk.2)) (fun _ hk => hk.1))
              have hNl : w.heap.size < wr.heap.size := blk_lt (HS.out.fixed _ List.mem_cons_self).1
              clear hR HS HRl hy0
              rcases ha : actS s n0 q2 with _ | ⟨a, qa⟩
              · rw [ha] at hA
                obtain ⟨ev, rfl, hbad⟩ := hA
                have HX := Lib.hid (HS4.out.fixed _ List.mem_cons_self).1
                have hx0 := blk_cell HX.out 0
                have hx1 := blk_cell HX.out 1
                have hx2 := blk_frozen HX.out 0
                have hx3 := blk_frozen HX.out 1
                simp at hx0 hx1
                have hbo : tabS s p = .error q2 := by
                  have e1 : actR s n0 q2 = .error q2 := by unfold actR; rw [ha]
                  have e2 := HCr.out
                  obtain ⟨m1, hm1⟩ : ∃ m, n1 - k = m + 1 := ⟨n1 - k - 1, by omega⟩
                  rw [hm1, cat_bad row e1] at e2
                  have e3 := HC.out
                  obtain ⟨m2, hm2⟩ : ∃ m, n0 - j = m + 1 := ⟨n0 - j - 1, by omega⟩
                  rw [hm2, cat_bad rows e2.symm] at e3
                  rw [HT.out]
                  unfold bodS
                  simp only [Int.toNat_natCast]
                  rw [← e3]
                have HT2 := Lib.hid hbo
                have HBad := Lib.hid ((hbad.far (k := w.heap.size) (j := 0) hNl nilS).far (k := w.heap.size) (j := 1) hNl nilS)
                have HB4 := Lib.hid HS4.out.below
                have hN4 : w.heap.size < w4.heap.size := blk_lt HX.out
                obtain ⟨b, hb1, rfl, hb2⟩ := hbad
                clear hbo hb1 hb2 ha HC HCr
                go_wp2_with fail
                refine bodyPost_ret (results_ct rfl _ _ w.heap.size 25 #[nilS, nilS] (0, 0) _ rfl (blk_alloc (blk_put (cs' := #[nilS, nilS]) (blk_put (cs' := #[nilS, nilS]) HX.out 0 _ rfl) 1 _ rfl) _) Tryd.underlying25 rfl (by kernel_rfl)) rfl ?_
                exact ⟨below_alloc (below_set (below_set HB4.out hwl) hwl) _, by rw [HT2.out]; exact ⟨_, rfl, (HBad.out.alloc _).before (by omega)⟩⟩
              · rw [ha] at hA
                obtain ⟨rfl, rfl⟩ := hA
                have e2 := HCr.out
                obtain ⟨m1, hm1⟩ : ∃ m, n1 - k = m + 1 := ⟨n1 - k - 1, by omega⟩
                rw [hm1, cat_more row (x := a) (q' := q3) (by unfold actR; rw [ha]), show m1 = n1 - (k + 1) by omega] at e2
                have HCr2 := Lib.hid e2
                have HSa := Lib.hid ((HS4.out.alloc (.cells #[.int .i64 a.f0, .int .i64 a.f1] 93)).alloc (.cells #[.int .i64 a.f0, .int .i64 a.f1] 93))
                have HRa := Lib.hid (Kd.R_alloc (Kd.R_alloc HRl4.out (.cells #[.int .i64 a.f0, .int .i64 a.f1] 93)) (.cells #[.int .i64 a.f0, .int .i64 a.f1] 93))
                have hLa := blk_new (w4.alloc (.cells #[.int .i64 a.f0, .int .i64 a.f1] 93)) (.cells #[.int .i64 a.f0, .int .i64 a.f1] 93)
                rw [World.size_alloc] at hLa
                have HLa := Lib.hid hLa
                have hbo : (row.length + 1) * 16 ≤ 140737488355328 := by have := hkl.out; omega
                clear ha e2 HCr HS4 HRl4 hm1 hLa
                go_wp2_with ((with_reducible refine gate_builtin (b := .append) (xs := #[.tmp 60, .tmp 62]) rfl ?_); at_builtin; refine Kd.R_append_rows k93 (w0 := w0) w0.heap.size rfl (.tmp 60) (.tmp 62) 90 93 (.agg #[.int .i64 0, .int .i64 0]) 16 rfl Tryd.underlying90 info93 rfl (by decide) (by omega) _ row [a] (some ⟨w4.heap.size + 1, 0, none⟩) 1 1 tru (fun _ => False) rfl rfl HRa.out (C_one93 HLa.out) (fun _ _ h => h) (fun _ h => h.elim) (fun _ _ => trivial) HSa.out.below HSa.out.below.size hbo ?_; intro v1 w5 ho5 hb5 hg5 hat5)
                have HS5 := Lib.hid (HSa.out.app (.inl rfl) (typed_of HRa.out) hg5 hat5 hb5)
                have HR5 := Lib.hid ho5
                clear ho5 hb5 hg5 hat5 HSa HRa HLa
                go_wp2_with fail
                go_roundw
                case rel => exact ⟨k + 1, q3, row ++ [a], by rw [Int.natCast_add]; rfl, by omega, hq3, Lib.hid (by rw [List.length_append, hkl.out]; rfl), HS5, HR5, HCr2⟩
                case measure => simp only [intOf]; omega
            · obtain rfl : k = n1 := by omega
              obtain ⟨Al, cl, rfl⟩ := Kd.R_slice HRl.out
              obtain ⟨AA, cA, eA⟩ := Kd.R_slice (Kd.R_drop HS.out.rA)
              subst eA
              have e2 := HCr.out
              rw [Nat.sub_self, cat_done] at e2
              have e3 := HC.out
              obtain ⟨m2, hm2⟩ : ∃ m, n0 - j = m + 1 := ⟨n0 - j - 1, by omega⟩
              rw [hm2, cat_more rows e2.symm, show m2 = n0 - (j + 1) by omega] at e3
              have HC3 := Lib.hid e3
              have hta := blk_cell HS.out.tb 0
              have htf := blk_frozen HS.out.tb 0
              simp at hta
              have HM := Lib.hid (Kd.M_row (R_ne_types HRl.out (Kd.R_drop HS.out.rA) (k93_E 90 (by decide))))
              have HA0 := Lib.hid (Kd.R_drop HS.out.rA)
              have hbo : (rows.length + 1) * 24 ≤ 140737488355328 := by have := hrl.out; omega
              have hkb : decide ((k : Int) < (k : Int)) = false := decide_eq_false (by omega)
              clear e2 e3 HC HCr hm2
              go_wp2_with ((with_reducible refine gate_builtin (b := .append) (xs := #[.tmp 66, .tmp 68]) rfl ?_); at_builtin; refine Kd.R_append kA (w0 := w0) (W := wr) w0.heap.size rfl (.tmp 66) (.tmp 68) 22 90 (.slice none 0 0) 24 rfl Tryd.underlying22 info90 rfl (by decide) (by omega) (.slice AA rows.length cA) rows row [.slice Al row.length cl] tru (fun k => some k ≠ (Value.slice AA rows.length cA).ownBlock) rfl rfl HM.out (fun _ hk => ⟨trivial, hk⟩) (fun _ _ => trivial) HA0.out HS.out.below HS.out.below.size hbo ?_; intro v1 w5 ho5 hb5 hg5 hat5; obtain ⟨A5, c5, e5⟩ := Kd.R_slice ho5; rw [List.length_append, List.length_singleton] at e5; subst e5; have HS5 := Lib.hid (HS.out.drop.appA ho5 hg5 hb5); have q5 := blk_cell HS5.out.tb 0; have qf := blk_frozen HS5.out.tb 0; simp only [List.getElem?_toArray, List.getElem?_cons_zero] at q5; clear ho5 hb5 hg5 hat5 hta htf)
              go_roundw
              case rel => exact ⟨j + 1, q2, _, rows ++ [row], by rw [Int.natCast_add]; rfl, by omega, hq2, Lib.hid (by rw [List.length_append, hrl.out]; rfl), HS5.out.setT 0 _ rfl, HC3⟩
              case measure => simp only [intOf]; omega
        · obtain rfl : j = n0 := by omega
          have hC := HC.out
          rw [Nat.sub_self, cat_done] at hC
          have HCA := Lib.hid hC.symm
          have hy0 := blk_cell (HS.out.fixed _ (List.mem_cons_of_mem _ List.mem_cons_self)).1 0
          simp at hy0
          have hjb : decide ((j : Int) < (j : Int)) = false := decide_eq_false (by omega)
          clear hC HC
          go_wp2_with fail
          clear hy0 hjb
          go_loopw [74] (fun v w' => ∃ (i q' : Nat) (vG : Value) (gos : List (List Int)), v = .int .i64 (i : Int) ∧ i ≤ j ∧ q' ≤ s.size ∧ Hid (gos.length = i) ∧ Hid (St w0 w' g (rdC s q') 83 bT #[vA, vG] (fixT w.heap.size j n1 n2) nilS vA vG rows gos) ∧ Hid (cat gos (many (many (goR s j) n2) (j - i) q') = many (many (goR s j) n2) j qA)) (fun v _ => j - (intOf v).toNat)
          case atStart => exact ⟨0, qA, nilS, [], rfl, Nat.zero_le _, hqA, Lib.hid rfl, HS, Lib.hid (by rw [Nat.sub_zero, cat_nil])⟩
          case round =>
            clear HS
            obtain ⟨i, q', vG, gos, rfl, hi2, hq', hgl2, HS, HC⟩ := hrel
            by_cases hin : i < j
            · have hib : decide ((i : Int) < (j : Int)) = true := decide_eq_true (by omega)
              have hiw : IntKind.i64.wrap ((i : Int) + 1) = (i : Int) + 1 := IntWalk.i64_in _ (by omega)
              have hy2 := blk_cell (HS.out.fixed _ (List.mem_cons_of_mem _ List.mem_cons_self)).1 2
              simp at hy2
              go_wp2_with fail
              clear hy2
              have HRl : Hid (kI.R 3 wr w0.heap.size tru nilS []) := Kd.R_nil _ _ _ _ _
              go_loopw [78, 13] (fun v vl w' => ∃ (k q2 : Nat) (row : List Int), v = .int .i64 (k : Int) ∧ k ≤ n2 ∧ q2 ≤ s.size ∧ Hid (row.length = k) ∧ Hid (St w0 w' g (rdC s q2) 83 bT #[vA, vG] (fixT w.heap.size j n1 n2) vl vA vG rows gos) ∧ Hid (kI.R 3 w' w0.heap.size tru vl row) ∧ Hid (cat row (many (goR s j) (n2 - k) q2) = many (goR s j) n2 q')) (fun v _ _ => n2 - (intOf v).toNat)
              case atStart => exact ⟨0, q', [], rfl, Nat.zero_le _, hq', Lib.hid rfl, HS, HRl, Lib.hid (by rw [Nat.sub_zero, cat_nil])⟩
              case round =>
                clear HS HRl
                obtain ⟨k, q2, row, rfl, hk, hq2, hkl, HS, HRl, HCr⟩ := hrel
                by_cases hkn : k < n2
                · have hkb : decide ((k : Int) < (n2 : Int)) = true := decide_eq_true (by omega)
                  have hkw : IntKind.i64.wrap ((k : Int) + 1) = (k : Int) + 1 := IntWalk.i64_in _ (by omega)
                  have hy0 := blk_cell (HS.out.fixed _ (List.mem_cons_of_mem _ List.mem_cons_self)).1 0
                  simp at hy0
                  go_wp2_with fail
                  refine (within_any s g q2 0 (j : Int) w0 _ ⟨HS.out.rd, hgw⟩ HS.out.below hs hq2).mono ?_
                  rintro e w4 ⟨q3, hq3, hR, hA⟩
                  have HS4 := Lib.hid (HS.out.call hR.keep hR.is.1 hR.below)
                  have HRl4 : Hid (kI.R 3 w4 w0.heap.size tru u13 row) := Lib.hid (Kd.R_mono (Kd.R_keep (Kd.R_types HRl.out HS.out.rd (kI_E 83 (by decide))) hR.keep (fun _ hk => hk.2)) (fun _ hk => hk.1))
                  have hNl : w.heap.size < wr.heap.size := blk_lt (HS.out.fixed _ List.mem_cons_self).1
                  clear hR HS HRl hy0
                  rcases ha : within s 0 j q2 with _ | ⟨a, qa⟩
                  · rw [ha] at hA
                    obtain ⟨ev, rfl, hbad⟩ := hA
                    have HX := Lib.hid (HS4.out.fixed _ List.mem_cons_self).1
                    have hx0 := blk_cell HX.out 0
                    have hx1 := blk_cell HX.out 1
                    have hx2 := blk_frozen HX.out 0
                    have hx3 := blk_frozen HX.out 1
                    simp at hx0 hx1
                    have hbo : tabS s p = .error q2 := by
                      have e1 : goR s j q2 = .error q2 := by unfold goR; rw [ha]
                      have e2 := HCr.out
                      obtain ⟨m1, hm1⟩ : ∃ m, n2 - k = m + 1 := ⟨n2 - k - 1, by omega⟩
                      rw [hm1, cat_bad row e1] at e2
                      have e3 := HC.out
                      obtain ⟨m2, hm2⟩ : ∃ m, j - i = m + 1 := ⟨j - i - 1, by omega⟩
                      rw [hm2, cat_bad gos e2.symm] at e3
                      rw [HT.out]
                      unfold bodS
                      simp only [Int.toNat_natCast]
                      rw [HCA.out]
                      simp only
                      rw [← e3]
                    have HT2 := Lib.hid hbo
                    have HBad := Lib.hid ((hbad.far (k := w.heap.size) (j := 0) hNl nilS).far (k := w.heap.size) (j := 1) hNl nilS)
                    have HB4 := Lib.hid HS4.out.below
                    have hN4 : w.heap.size < w4.heap.size := blk_lt HX.out
                    obtain ⟨b, hb1, rfl, hb2⟩ := hbad
                    clear hbo hb1 hb2 ha HC HCr
                    go_wp2_with fail
                    refine bodyPost_ret (results_ct rfl _ _ w.heap.size 25 #[nilS, nilS] (0, 0) _ rfl (blk_put (cs' := #[nilS, nilS]) (blk_put (cs' := #[nilS, nilS]) HX.out 0 _ rfl) 1 _ rfl) Tryd.underlying25 rfl (by kernel_rfl)) rfl ?_
                    exact ⟨below_set (below_set HB4.out hwl) hwl, by rw [HT2.out]; exact ⟨_, rfl, HBad.out.before (by omega)⟩⟩
                  · rw [ha] at hA
                    have hab := within_bound ha
                    obtain ⟨rfl, rfl⟩ := hA
                    have e2 := HCr.out
                    obtain ⟨m1, hm1⟩ : ∃ m, n2 - k = m + 1 := ⟨n2 - k - 1, by omega⟩
                    rw [hm1, cat_more row (x := a - 1) (q' := q3) (by unfold goR; rw [ha]), show m1 = n2 - (k + 1) by omega] at e2
                    have HCr2 := Lib.hid e2
                    obtain ⟨ha0, ha1, _, _⟩ := hab
                    simp only at ha0 ha1
                    have haw : IntKind.i64.wrap (a - 1) = a - 1 := IntWalk.i64_in _ (by omega)
                    have HSa := Lib.hid (HS4.out.alloc (.cells #[.int .i64 (a - 1)] 3))
                    have HRa := Lib.hid (Kd.R_alloc HRl4.out (.cells #[.int .i64 (a - 1)] 3))
                    have HLa := Lib.hid (blk_new w4 (.cells #[.int .i64 (a - 1)] 3))
                    have hbo : (row.length + 1) * 8 ≤ 140737488355328 := by have := hkl.out; omega
                    clear ha e2 HCr HS4 HRl4 hm1
                    go_wp2_with ((with_reducible refine gate_builtin (b := .append) (xs := #[.tmp 91, .tmp 94]) rfl ?_); at_builtin; refine Kd.R_append_rows kI (w0 := w0) w0.heap.size rfl (.tmp 91) (.tmp 94) 95 3 (.int .i64 0) 8 rfl Tryd.underlying95 info3 rfl (by decide) (by omega) _ row [a - 1] (some ⟨w4.heap.size, 0, none⟩) 1 1 tru (fun _ => False) rfl rfl HRa.out (C_one3 HLa.out) (fun _ _ h => h) (fun _ h => h.elim) (fun _ _ => trivial) HSa.out.below HSa.out.below.size hbo ?_; intro v1 w5 ho5 hb5 hg5 hat5)
                    have HS5 := Lib.hid (HSa.out.app (.inr rfl) (typed_of HRa.out) hg5 hat5 hb5)
                    have HR5 := Lib.hid ho5
                    clear ho5 hb5 hg5 hat5 HSa HRa HLa
                    go_wp2_with fail
                    go_roundw
                    case rel => exact ⟨k + 1, q3, row ++ [a - 1], by rw [Int.natCast_add]; rfl, by omega, hq3, Lib.hid (by rw [List.length_append, hkl.out]; rfl), HS5, HR5, HCr2⟩
                    case measure => simp only [intOf]; omega
                · obtain rfl : k = n2 := by omega
                  obtain ⟨Al, cl, rfl⟩ := Kd.R_slice HRl.out
                  obtain ⟨AA, cA, eA⟩ := Kd.R_slice (Kd.R_drop HS.out.rG)
                  subst eA
                  have e2 := HCr.out
                  rw [Nat.sub_self, cat_done] at e2
                  have e3 := HC.out
                  obtain ⟨m2, hm2⟩ : ∃ m, j - i = m + 1 := ⟨j - i - 1, by omega⟩
                  rw [hm2, cat_more gos e2.symm, show m2 = j - (i + 1) by omega] at e3
                  have HC3 := Lib.hid e3
                  have hta := blk_cell HS.out.tb 1
                  have htf := blk_frozen HS.out.tb 1
                  simp at hta
                  have HM := Lib.hid (Kd.M_row (R_ne_types HRl.out (Kd.R_drop HS.out.rG) (kI_E 95 (by decide))))
                  have HA0 := Lib.hid (Kd.R_drop HS.out.rG)
                  have hbo : (gos.length + 1) * 24 ≤ 140737488355328 := by have := hgl2.out; omega
                  have hkb : decide ((k : Int) < (k : Int)) = false := decide_eq_false (by omega)
                  clear e2 e3 HC HCr hm2
                  go_wp2_with ((with_reducible refine gate_builtin (b := .append) (xs := #[.tmp 98, .tmp 100]) rfl ?_); at_builtin; refine Kd.R_append kG (w0 := w0) (W := wr) w0.heap.size rfl (.tmp 98) (.tmp 100) 23 95 (.slice none 0 0) 24 rfl Tryd.underlying23 info95 rfl (by decide) (by omega) (.slice AA gos.length cA) gos row [.slice Al row.length cl] tru (fun k => some k ≠ (Value.slice AA gos.length cA).ownBlock) rfl rfl HM.out (fun _ hk => ⟨trivial, hk⟩) (fun _ _ => trivial) HA0.out HS.out.below HS.out.below.size hbo ?_; intro v1 w5 ho5 hb5 hg5 hat5; obtain ⟨A5, c5, e5⟩ := Kd.R_slice ho5; rw [List.length_append, List.length_singleton] at e5; subst e5; have HS5 := Lib.hid (HS.out.drop.appG ho5 hg5 hb5); have q5 := blk_cell HS5.out.tb 1; have qf := blk_frozen HS5.out.tb 1; simp only [List.getElem?_toArray, List.getElem?_cons_zero, List.getElem?_cons_succ] at q5; clear ho5 hb5 hg5 hat5 hta htf)
                  go_roundw
                  case rel => exact ⟨i + 1, q2, _, gos ++ [row], by rw [Int.natCast_add]; rfl, by omega, hq2, Lib.hid (by rw [List.length_append, hgl2.out]; rfl), HS5.out.setT 1 _ rfl, HC3⟩
                  case measure => simp only [intOf]; omega
            · obtain rfl : i = j := by omega
              have hC := HC.out
              rw [Nat.sub_self, cat_done] at hC
              have hib : decide ((i : Int) < (i : Int)) = false := decide_eq_false (by omega)
              have hT : tabS s p = if q' < s.size then .error q' else .ok (rows, gos) := by
                rw [HT.out]
                unfold bodS
                simp only [Int.toNat_natCast]
                rw [HCA.out]
                simp only
                rw [← hC]
              have HT2 := Lib.hid hT
              clear hC HC hT HT HCA
              obtain ⟨AA, cA, eA⟩ := Kd.R_slice (Kd.R_drop HS.out.rA)
              obtain ⟨AG, cG, eG⟩ := Kd.R_slice (Kd.R_drop HS.out.rG)
              subst eA
              subst eG
              have hr0 := blk_cell HS.out.rd 0
              have hr1 := blk_cell HS.out.rd 1
              simp at hr0 hr1
              have HX := Lib.hid (HS.out.fixed _ List.mem_cons_self).1
              have hx0 := blk_cell HX.out 0
              have hx1 := blk_cell HX.out 1
              have hx2 := blk_frozen HX.out 0
              have hx3 := blk_frozen HX.out 1
              simp at hx0 hx1
              have ht0 := blk_cell HS.out.tb 0
              have ht1 := blk_cell HS.out.tb 1
              simp at ht0 ht1
              by_cases hqs : q' < s.size
              · go_wp2_with fail
                go_quiet (fail)
                have HSX := Lib.hid (HS.out.drewN nq)
                clear hr0 hr1 hx0 hx1 hx2 hx3 ht0 ht1 HX HS
                generalize wr.drewN nq = X at *
                have hr0 := blk_cell HSX.out.rd 0
                have hr1 := blk_cell HSX.out.rd 1
                simp at hr0 hr1
                have HX := Lib.hid (HSX.out.fixed _ List.mem_cons_self).1
                have hx0 := blk_cell HX.out 0
                have hx1 := blk_cell HX.out 1
                have hx2 := blk_frozen HX.out 0
                have hx3 := blk_frozen HX.out 1
                simp at hx0 hx1
                have hNX := blk_lt HX.out
                have hgX : g < X.heap.size := blk_lt HSX.out.rd
                go_wp2_with fail
                go_region
                go_wp2_with fail
                refine bodyPost_ret (results_ct rfl _ _ w.heap.size 25 #[nilS, nilS] (0, 0) _ rfl (blk_drew (blk_alloc (blk_put (cs' := #[nilS, nilS]) (blk_put (cs' := #[nilS, nilS]) HX.out 0 _ rfl) 1 _ rfl) _)) Tryd.underlying25 rfl (by kernel_rfl)) rfl ?_
                refine ⟨below_drew (below_alloc (below_set (below_set HSX.out.below hwl) hwl) _), ?_⟩
                rw [HT2.out, if_pos hqs]
                exact ⟨_, rfl, X.heap.size, Nat.le_of_lt (by omega), rfl, blk_drew (blk_new_set2 _ _ _ _ _ _)⟩
              · go_wp2_with fail
                go_quiet (fail)
                have HSX := Lib.hid (HS.out.drewN nq)
                clear hr0 hr1 hx0 hx1 hx2 hx3 ht0 ht1 HX HS
                generalize wr.drewN nq = X at *
                have ht0 := blk_cell HSX.out.tb 0
                have ht1 := blk_cell HSX.out.tb 1
                simp at ht0 ht1
                have HX := Lib.hid (HSX.out.fixed _ List.mem_cons_self).1
                have hx0 := blk_cell HX.out 0
                have hx1 := blk_cell HX.out 1
                have hx2 := blk_frozen HX.out 0
                have hx3 := blk_frozen HX.out 1
                simp at hx0 hx1
                go_wp2_with fail
                refine bodyPost_ret (results_ct rfl _ _ w.heap.size 25 #[.slice AA rows.length cA, .slice AG gos.length cG] (0, 0) _ rfl (blk_put (cs' := #[.slice AA rows.length cA, .slice AG gos.length cG]) (blk_put (cs' := #[.slice AA rows.length cA, nilS]) HX.out 0 _ rfl) 1 _ rfl) Tryd.underlying25 rfl (by kernel_rfl)) rfl ?_
                refine ⟨below_set (below_set HSX.out.below hwl) hwl, ?_⟩
                rw [HT2.out, if_neg hqs]
                refine ⟨_, _, rfl, ?_, ?_⟩
                · exact Kd.R_set (Kd.R_set (Kd.R_drop HSX.out.rA) HX.out (kA_E plain25) 0 _) (blk_set HX.out 0 _) (kA_E plain25) 1 _
                · exact Kd.R_set (Kd.R_set (Kd.R_drop HSX.out.rG) HX.out (kG_E plain25) 0 _) (blk_set HX.out 0 _) (kG_E plain25) 1 _
end Dec
end Go.Proofs.YtcijanmckhlpiaaDoor
