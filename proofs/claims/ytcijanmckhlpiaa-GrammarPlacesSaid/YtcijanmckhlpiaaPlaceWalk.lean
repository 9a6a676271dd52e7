import Derived.Test.YtcijanmckhlpiaaPlaceRef
import Derived.Test.YtcijanmckhlpiaaMapInt
import Derived.WalkSpells
import Derived.WalkLawsBesides
import Derived.Lib.Hide
import Derived.BigRegion
import Derived.Deep.RegionHeld3
namespace Go.Proofs.Ytcijanmckhlpiaa
open Go.RowKit Go.Proofs.YtcijanmckhlpiaaW.PrintWords Go.Proofs.YtcijanmckhlpiaaW.PrintLast Go.Proofs.YtcijanmckhlpiaaW.PrintMore Go.Proofs.Ytcijanmckhlpiaa.PGrammarPlaces
set_option linter.unusedVariables false
set_option linter.unusedSimpArgs false

abbrev kI : Kd Int := Kd.int .i64
/-! ### the plain law -/
def entryS (l : List Int) (i : Int) : Int := if i < 0 then 0 else if i ≥ (l.length : Int) then 0 else rd l i
theorem entry_f (l : List Int) (i : Int) : trellisref10_entry.f l i = some (entryS l i) := by
  unfold trellisref10_entry.f entryS
  by_cases h : i < 0
  · simp [h]
  · by_cases h2 : i ≥ (l.length : Int)
    · simp [h, h2]
    · rw [if_neg h, if_neg h2, if_neg h, if_neg h2, if_pos (by omega), if_pos (by omega)]
def selS (l0 l1 l2 l3 l4 l5 l6 l7 : List Int) (p : Int) : List Int := if p = 1 then l0 else if p = 2 then l1 else if p = 3 then l2 else if p = 4 then l3 else if p = 5 then l4 else if p = 6 then l5 else if p = 7 then l6 else if p = 8 then l7 else []
def placeS (l0 l1 l2 l3 l4 l5 l6 l7 : List Int) (l8 : List (List Int)) (f1 f2 f3 : Int) : Int :=
  if f1 = 4 ∧ f3 ≥ 0 then (if f2 < 0 then 0 else if f2 ≥ (l8.length : Int) then 0 else entryS (rd_L1 l8 f2) f3) else entryS (selS l0 l1 l2 l3 l4 l5 l6 l7 f1) f2
theorem entryS_nil (i : Int) : entryS [] i = 0 := by
  unfold entryS
  by_cases h : i < 0
  · simp [h]
  · rw [if_neg h, if_pos (by simp; omega)]
theorem place_f (l0 l1 l2 l3 l4 l5 l6 l7 : List Int) (l8 : List (List Int)) (f0 f1 f2 f3 : Int) : trellisref10_Place.f l0 l1 l2 l3 l4 l5 l6 l7 l8 f0 f1 f2 f3 = some (placeS l0 l1 l2 l3 l4 l5 l6 l7 l8 f1 f2 f3) := by
  unfold trellisref10_Place.f placeS selS
  simp only [entry_f, Option.bind_some]
  by_cases h4 : f1 = 4
  · subst h4
    simp only [show ¬ (4 : Int) = 1 by decide, show ¬ (4 : Int) = 2 by decide, show ¬ (4 : Int) = 3 by decide, if_false, if_true, true_and]
    by_cases h : f3 < 0
    · rw [if_pos h, if_neg (show ¬ f3 ≥ 0 by omega)]
    · rw [if_neg h, if_pos (show f3 ≥ 0 by omega)]
      by_cases h5 : f2 < 0
      · rw [if_pos h5, if_pos h5]
      · rw [if_neg h5, if_neg h5]
        by_cases h6 : f2 ≥ (l8.length : Int)
        · rw [if_pos h6, if_pos h6]
        · rw [if_neg h6, if_neg h6, if_pos (by omega), if_pos (by omega)]
  · rw [if_neg (show ¬ (f1 = 4 ∧ f3 ≥ 0) from fun h => h4 h.1)]
    simp only [if_neg h4]
    repeat' split
    all_goals first | rfl | rw [entryS_nil]

/-- The map's block alone has turned. -/
theorem step_map {w W W1 : World} {b B : Nat} (hB : B ≤ b) (h : Below B w W) (hs : W1.heap.size = W.heap.size) (hg : ∀ g, g ≠ b → W1.heap[g]? = W.heap[g]?) (h1 : W1.os = W.os) (h2 : W1.tape = W.tape) (h3 : W1.output = W.output) : Below B w W1 :=
  h.trans ⟨h1, h2, h3, by omega, fun i hi => hg i (by omega)⟩
theorem blk_new1 (w : World) (o o' : Obj) : ((w.alloc o).alloc o').heap[w.heap.size + 1]? = some o' := by
  have h := blk_new (w.alloc o) o'
  rwa [show (w.alloc o).heap.size = w.heap.size + 1 by simp] at h
theorem blk_new2 (w : World) (o o' o'' : Obj) : (((w.alloc o).alloc o').alloc o'').heap[w.heap.size + 1 + 1]? = some o'' := by
  have h := blk_new ((w.alloc o).alloc o') o''
  rwa [show ((w.alloc o).alloc o').heap.size = w.heap.size + 1 + 1 by simp] at h
theorem sel_any (A0 : Option Addr) (c0 : Nat) (l0 : List Int) (A1 : Option Addr) (c1 : Nat) (l1 : List Int) (A2 : Option Addr) (c2 : Nat) (l2 : List Int) (A3 : Option Addr) (c3 : Nat) (l3 : List Int) (A4 : Option Addr) (c4 : Nat) (l4 : List Int) (A5 : Option Addr) (c5 : Nat) (l5 : List Int) (A6 : Option Addr) (c6 : Nat) (l6 : List Int) (A7 : Option Addr) (c7 : Nat) (l7 : List Int) (p : Int) (W : World) (h0 : kI.C W A0 l0.length l0) (d0 : l0.length ≤ c0) (h1 : kI.C W A1 l1.length l1) (d1 : l1.length ≤ c1) (h2 : kI.C W A2 l2.length l2) (d2 : l2.length ≤ c2) (h3 : kI.C W A3 l3.length l3) (d3 : l3.length ≤ c3) (h4 : kI.C W A4 l4.length l4) (d4 : l4.length ≤ c4) (h5 : kI.C W A5 l5.length l5) (d5 : l5.length ≤ c5) (h6 : kI.C W A6 l6.length l6) (d6 : l6.length ≤ c6) (h7 : kI.C W A7 l7.length l7) (d7 : l7.length ≤ c7) :
    ∃ As cs, ([((1 : Int), Value.slice A0 l0.length c0), ((2 : Int), Value.slice A1 l1.length c1), ((3 : Int), Value.slice A2 l2.length c2), ((4 : Int), Value.slice A3 l3.length c3), ((5 : Int), Value.slice A4 l4.length c4), ((6 : Int), Value.slice A5 l5.length c5), ((7 : Int), Value.slice A6 l6.length c6), ((8 : Int), Value.slice A7 l7.length c7)].lookup p).getD (.slice none 0 0) = Value.slice As (selS l0 l1 l2 l3 l4 l5 l6 l7 p).length cs ∧ (selS l0 l1 l2 l3 l4 l5 l6 l7 p).length ≤ cs ∧ kI.C W As (selS l0 l1 l2 l3 l4 l5 l6 l7 p).length (selS l0 l1 l2 l3 l4 l5 l6 l7 p) := by
  by_cases e0 : p = 1
  · subst e0
    exact ⟨A0, c0, rfl, d0, h0⟩
  by_cases e1 : p = 2
  · subst e1
    exact ⟨A1, c1, rfl, d1, h1⟩
  by_cases e2 : p = 3
  · subst e2
    exact ⟨A2, c2, rfl, d2, h2⟩
  by_cases e3 : p = 4
  · subst e3
    exact ⟨A3, c3, rfl, d3, h3⟩
  by_cases e4 : p = 5
  · subst e4
    exact ⟨A4, c4, rfl, d4, h4⟩
  by_cases e5 : p = 6
  · subst e5
    exact ⟨A5, c5, rfl, d5, h5⟩
  by_cases e6 : p = 7
  · subst e6
    exact ⟨A6, c6, rfl, d6, h6⟩
  by_cases e7 : p = 8
  · subst e7
    exact ⟨A7, c7, rfl, d7, h7⟩
  have hs : selS l0 l1 l2 l3 l4 l5 l6 l7 p = [] := by unfold selS; simp only [if_neg e0, if_neg e1, if_neg e2, if_neg e3, if_neg e4, if_neg e5, if_neg e6, if_neg e7]
  rw [hs]
  refine ⟨none, 0, ?_, Nat.le_refl _, Kd.C_nil _ _⟩
  simp only [List.lookup, beq_eq_false_iff_ne.2 e0, beq_eq_false_iff_ne.2 e1, beq_eq_false_iff_ne.2 e2, beq_eq_false_iff_ne.2 e3, beq_eq_false_iff_ne.2 e4, beq_eq_false_iff_ne.2 e5, beq_eq_false_iff_ne.2 e6, beq_eq_false_iff_ne.2 e7, Option.getD_none, List.length_nil]
theorem zero33 : ∀ W : World, (zeroValue 33).run Try.prog W = .ok (.slice none 0 0) W := fun W => by kernel_rfl
theorem ret_int {k : IntKind} {a b : Int} (h : b = a) : Ending.returned (.int k a) = .returned (.int k b) := by rw [h]
set_option maxRecDepth 100000 in
set_option maxHeartbeats 4000000 in
theorem place_any (A0 : Option Addr) (c0 : Nat) (l0 : List Int) (A1 : Option Addr) (c1 : Nat) (l1 : List Int) (A2 : Option Addr) (c2 : Nat) (l2 : List Int) (A3 : Option Addr) (c3 : Nat) (l3 : List Int) (A4 : Option Addr) (c4 : Nat) (l4 : List Int) (A5 : Option Addr) (c5 : Nat) (l5 : List Int) (A6 : Option Addr) (c6 : Nat) (l6 : List Int) (A7 : Option Addr) (c7 : Nat) (l7 : List Int) (A8 : Option Addr) (c8 : Nat) (l8 : List (List Int)) (f0 f1 f2 f3 : Int) (w : World) (h0 : kI.C w A0 l0.length l0) (d0 : l0.length ≤ c0) (h1 : kI.C w A1 l1.length l1) (d1 : l1.length ≤ c1) (h2 : kI.C w A2 l2.length l2) (d2 : l2.length ≤ c2) (h3 : kI.C w A3 l3.length l3) (d3 : l3.length ≤ c3) (h4 : kI.C w A4 l4.length l4) (d4 : l4.length ≤ c4) (h5 : kI.C w A5 l5.length l5) (d5 : l5.length ≤ c5) (h6 : kI.C w A6 l6.length l6) (d6 : l6.length ≤ c6) (h7 : kI.C w A7 l7.length l7) (d7 : l7.length ≤ c7) (h8 : (Kd.slice 3 kI).C w A8 l8.length l8) (d8 : l8.length ≤ c8) :
    Calls Try.prog 16 #[.agg #[.slice A0 l0.length c0, .slice A1 l1.length c1, .slice A2 l2.length c2, .slice A3 l3.length c3, .slice A4 l4.length c4, .slice A5 l5.length c5, .slice A6 l6.length c6, .slice A7 l7.length c7, .slice A8 l8.length c8], .agg #[.int .i64 f0, .int .i64 f1, .int .i64 f2, .int .i64 f3]] w fun e w' => e = .returned (.int .i64 (placeS l0 l1 l2 l3 l4 l5 l6 l7 l8 f1 f2 f3)) ∧ Below w.heap.size w w' := by
  have G0 := Lib.hid h0
  have D0 := Lib.hid d0
  have G1 := Lib.hid h1
  have D1 := Lib.hid d1
  have G2 := Lib.hid h2
  have D2 := Lib.hid d2
  have G3 := Lib.hid h3
  have D3 := Lib.hid d3
  have G4 := Lib.hid h4
  have D4 := Lib.hid d4
  have G5 := Lib.hid h5
  have D5 := Lib.hid d5
  have G6 := Lib.hid h6
  have D6 := Lib.hid d6
  have G7 := Lib.hid h7
  have D7 := Lib.hid d7
  have G8 := Lib.hid h8
  have D8 := Lib.hid d8
  clear h0 d0 h1 d1 h2 d2 h3 d3 h4 d4 h5 d5 h6 d6 h7 d7 h8 d8
  have HB0 := Lib.hid (blk_alloc (blk_alloc (blk_new w (.cells #[Value.slice A0 l0.length c0, Value.slice A1 l1.length c1, Value.slice A2 l2.length c2, Value.slice A3 l3.length c3, Value.slice A4 l4.length c4, Value.slice A5 l5.length c5, Value.slice A6 l6.length c6, Value.slice A7 l7.length c7, Value.slice A8 l8.length c8] 35)) (.cells #[Value.int .i64 f0, .int .i64 f1, .int .i64 f2, .int .i64 f3] 39)) (.map #[] 0))
  go_enter Try.func16, Try.ntmps16
  have hmk := @run_makeMap Try.prog
  have b10 : ((w.alloc (.cells #[Value.slice A0 l0.length c0, Value.slice A1 l1.length c1, Value.slice A2 l2.length c2, Value.slice A3 l3.length c3, Value.slice A4 l4.length c4, Value.slice A5 l5.length c5, Value.slice A6 l6.length c6, Value.slice A7 l7.length c7, Value.slice A8 l8.length c8] 35)).alloc (.cells #[Value.int .i64 f0, .int .i64 f1, .int .i64 f2, .int .i64 f3] 39)).cell? ⟨w.heap.size, 0, none⟩ = some (.slice A0 l0.length c0) := blk_cell (blk_alloc (blk_new w _) _) 0
  have HF0 := Lib.hid (blk_alloc (blk_new1 w (.cells #[Value.slice A0 l0.length c0, Value.slice A1 l1.length c1, Value.slice A2 l2.length c2, Value.slice A3 l3.length c3, Value.slice A4 l4.length c4, Value.slice A5 l5.length c5, Value.slice A6 l6.length c6, Value.slice A7 l7.length c7, Value.slice A8 l8.length c8] 35) (.cells #[Value.int .i64 f0, .int .i64 f1, .int .i64 f2, .int .i64 f3] 39)) (.map #[] 0))
  have HW0 := Lib.hid (below_alloc (below_alloc (below_alloc (Below.refl _ w) (.cells #[Value.slice A0 l0.length c0, Value.slice A1 l1.length c1, Value.slice A2 l2.length c2, Value.slice A3 l3.length c3, Value.slice A4 l4.length c4, Value.slice A5 l5.length c5, Value.slice A6 l6.length c6, Value.slice A7 l7.length c7, Value.slice A8 l8.length c8] 35)) (.cells #[Value.int .i64 f0, .int .i64 f1, .int .i64 f2, .int .i64 f3] 39)) (.map #[] 0))
  have HM0 : Hid (MapIs (((w.alloc (.cells #[Value.slice A0 l0.length c0, Value.slice A1 l1.length c1, Value.slice A2 l2.length c2, Value.slice A3 l3.length c3, Value.slice A4 l4.length c4, Value.slice A5 l5.length c5, Value.slice A6 l6.length c6, Value.slice A7 l7.length c7, Value.slice A8 l8.length c8] 35)).alloc (.cells #[Value.int .i64 f0, .int .i64 f1, .int .i64 f2, .int .i64 f3] 39)).alloc (.map #[] 0)) (w.heap.size + 1 + 1) []) := ⟨#[], 0, blk_new2 _ _ _ _, rfl⟩
  have q0 : True := trivial
  go_wp2_with (first | ((with_reducible refine gate_insert (1 : Int) rfl ?_); refine insert_event rfl rfl rfl Try.underlying82 Try.underlying37 (es := []) (1 : Int) (.slice A0 l0.length c0) rfl rfl rfl HM0.out (by simp [List.lookup]) ?_; intro W1 hm hsz hot hos htp hou; have HM1 := Lib.hid hm; have HB1 := Lib.hid ((hot _ (by omega)).trans HB0.out); have HF1 := Lib.hid ((hot _ (by omega)).trans HF0.out); have HW1 := Lib.hid (step_map (by omega) HW0.out hsz hot hos htp hou); have q1 : W1.cell? ⟨w.heap.size, 1, none⟩ = some (.slice A1 l1.length c1) := blk_cell HB1.out 1; clear hm hsz hot hos htp hou q0) | ((with_reducible refine gate_insert (2 : Int) rfl ?_); refine insert_event rfl rfl rfl Try.underlying82 Try.underlying37 (es := [((1 : Int), Value.slice A0 l0.length c0)]) (2 : Int) (.slice A1 l1.length c1) rfl rfl rfl HM1.out (by simp [List.lookup]) ?_; intro W2 hm hsz hot hos htp hou; have HM2 := Lib.hid hm; have HB2 := Lib.hid ((hot _ (by omega)).trans HB1.out); have HF2 := Lib.hid ((hot _ (by omega)).trans HF1.out); have HW2 := Lib.hid (step_map (by omega) HW1.out hsz hot hos htp hou); have q2 : W2.cell? ⟨w.heap.size, 2, none⟩ = some (.slice A2 l2.length c2) := blk_cell HB2.out 2; clear hm hsz hot hos htp hou q1) | ((with_reducible refine gate_insert (3 : Int) rfl ?_); refine insert_event rfl rfl rfl Try.underlying82 Try.underlying37 (es := [((1 : Int), Value.slice A0 l0.length c0), ((2 : Int), Value.slice A1 l1.length c1)]) (3 : Int) (.slice A2 l2.length c2) rfl rfl rfl HM2.out (by simp [List.lookup]) ?_; intro W3 hm hsz hot hos htp hou; have HM3 := Lib.hid hm; have HB3 := Lib.hid ((hot _ (by omega)).trans HB2.out); have HF3 := Lib.hid ((hot _ (by omega)).trans HF2.out); have HW3 := Lib.hid (step_map (by omega) HW2.out hsz hot hos htp hou); have q3 : W3.cell? ⟨w.heap.size, 3, none⟩ = some (.slice A3 l3.length c3) := blk_cell HB3.out 3; clear hm hsz hot hos htp hou q2) | ((with_reducible refine gate_insert (4 : Int) rfl ?_); refine insert_event rfl rfl rfl Try.underlying82 Try.underlying37 (es := [((1 : Int), Value.slice A0 l0.length c0), ((2 : Int), Value.slice A1 l1.length c1), ((3 : Int), Value.slice A2 l2.length c2)]) (4 : Int) (.slice A3 l3.length c3) rfl rfl rfl HM3.out (by simp [List.lookup]) ?_; intro W4 hm hsz hot hos htp hou; have HM4 := Lib.hid hm; have HB4 := Lib.hid ((hot _ (by omega)).trans HB3.out); have HF4 := Lib.hid ((hot _ (by omega)).trans HF3.out); have HW4 := Lib.hid (step_map (by omega) HW3.out hsz hot hos htp hou); have q4 : W4.cell? ⟨w.heap.size, 4, none⟩ = some (.slice A4 l4.length c4) := blk_cell HB4.out 4; clear hm hsz hot hos htp hou q3) | ((with_reducible refine gate_insert (5 : Int) rfl ?_); refine insert_event rfl rfl rfl Try.underlying82 Try.underlying37 (es := [((1 : Int), Value.slice A0 l0.length c0), ((2 : Int), Value.slice A1 l1.length c1), ((3 : Int), Value.slice A2 l2.length c2), ((4 : Int), Value.slice A3 l3.length c3)]) (5 : Int) (.slice A4 l4.length c4) rfl rfl rfl HM4.out (by simp [List.lookup]) ?_; intro W5 hm hsz hot hos htp hou; have HM5 := Lib.hid hm; have HB5 := Lib.hid ((hot _ (by omega)).trans HB4.out); have HF5 := Lib.hid ((hot _ (by omega)).trans HF4.out); have HW5 := Lib.hid (step_map (by omega) HW4.out hsz hot hos htp hou); have q5 : W5.cell? ⟨w.heap.size, 5, none⟩ = some (.slice A5 l5.length c5) := blk_cell HB5.out 5; clear hm hsz hot hos htp hou q4) | ((with_reducible refine gate_insert (6 : Int) rfl ?_); refine insert_event rfl rfl rfl Try.underlying82 Try.underlying37 (es := [((1 : Int), Value.slice A0 l0.length c0), ((2 : Int), Value.slice A1 l1.length c1), ((3 : Int), Value.slice A2 l2.length c2), ((4 : Int), Value.slice A3 l3.length c3), ((5 : Int), Value.slice A4 l4.length c4)]) (6 : Int) (.slice A5 l5.length c5) rfl rfl rfl HM5.out (by simp [List.lookup]) ?_; intro W6 hm hsz hot hos htp hou; have HM6 := Lib.hid hm; have HB6 := Lib.hid ((hot _ (by omega)).trans HB5.out); have HF6 := Lib.hid ((hot _ (by omega)).trans HF5.out); have HW6 := Lib.hid (step_map (by omega) HW5.out hsz hot hos htp hou); have q6 : W6.cell? ⟨w.heap.size, 6, none⟩ = some (.slice A6 l6.length c6) := blk_cell HB6.out 6; clear hm hsz hot hos htp hou q5) | ((with_reducible refine gate_insert (7 : Int) rfl ?_); refine insert_event rfl rfl rfl Try.underlying82 Try.underlying37 (es := [((1 : Int), Value.slice A0 l0.length c0), ((2 : Int), Value.slice A1 l1.length c1), ((3 : Int), Value.slice A2 l2.length c2), ((4 : Int), Value.slice A3 l3.length c3), ((5 : Int), Value.slice A4 l4.length c4), ((6 : Int), Value.slice A5 l5.length c5)]) (7 : Int) (.slice A6 l6.length c6) rfl rfl rfl HM6.out (by simp [List.lookup]) ?_; intro W7 hm hsz hot hos htp hou; have HM7 := Lib.hid hm; have HB7 := Lib.hid ((hot _ (by omega)).trans HB6.out); have HF7 := Lib.hid ((hot _ (by omega)).trans HF6.out); have HW7 := Lib.hid (step_map (by omega) HW6.out hsz hot hos htp hou); have q7 : W7.cell? ⟨w.heap.size, 7, none⟩ = some (.slice A7 l7.length c7) := blk_cell HB7.out 7; clear hm hsz hot hos htp hou q6) | ((with_reducible refine gate_insert (8 : Int) rfl ?_); refine insert_event rfl rfl rfl Try.underlying82 Try.underlying37 (es := [((1 : Int), Value.slice A0 l0.length c0), ((2 : Int), Value.slice A1 l1.length c1), ((3 : Int), Value.slice A2 l2.length c2), ((4 : Int), Value.slice A3 l3.length c3), ((5 : Int), Value.slice A4 l4.length c4), ((6 : Int), Value.slice A5 l5.length c5), ((7 : Int), Value.slice A6 l6.length c6)]) (8 : Int) (.slice A7 l7.length c7) rfl rfl rfl HM7.out (by simp [List.lookup]) ?_; intro W8 hm hsz hot hos htp hou; have HM8 := Lib.hid hm; have HB8 := Lib.hid ((hot _ (by omega)).trans HB7.out); have HF8 := Lib.hid ((hot _ (by omega)).trans HF7.out); have HW8 := Lib.hid (step_map (by omega) HW7.out hsz hot hos htp hou); clear hm hsz hot hos htp hou q7))
  have hC : ∀ {A n} {l : List Int}, kI.C w A n l → kI.C W8 A n l := fun h => Kd.C_below h HW8.out
  obtain ⟨As, cs, hsel, hsl, hsC⟩ := sel_any A0 c0 l0 A1 c1 l1 A2 c2 l2 A3 c3 l3 A4 c4 l4 A5 c5 l5 A6 c6 l6 A7 c7 l7 f1 W8 (hC G0.out) D0.out (hC G1.out) D1.out (hC G2.out) D2.out (hC G3.out) D3.out (hC G4.out) D4.out (hC G5.out) D5.out (hC G6.out) D6.out (hC G7.out) D7.out
  have hlook : ∀ n, (Instr.lookup 82 (.map (some (w.heap.size + 1 + 1))) (.int .i64 f1) false).run Try.prog (W8.drewN n) = .ok (.slice As (selS l0 l1 l2 l3 l4 l5 l6 l7 f1).length cs) (W8.drewN n) := fun n => by
    rw [← hsel]
    exact run_lookup_int Try.underlying82 Try.underlying37 (W := W8.drewN n) HM8.out f1 _ zero33
  have HSL := Lib.hid hsl
  have HSC := Lib.hid hsC
  have u1 : W8.cell? ⟨w.heap.size + 1, 1, none⟩ = some (.int .i64 f1) := blk_cell HF8.out 1
  have u2 : W8.cell? ⟨w.heap.size + 1, 2, none⟩ = some (.int .i64 f2) := blk_cell HF8.out 2
  have u3 : W8.cell? ⟨w.heap.size + 1, 3, none⟩ = some (.int .i64 f3) := blk_cell HF8.out 3
  have u4 : W8.cell? ⟨w.heap.size, 8, none⟩ = some (.slice A8 l8.length c8) := blk_cell HB8.out 8
  have e1 : placeS l0 l1 l2 l3 l4 l5 l6 l7 l8 f1 f2 f3 = if f1 = 4 ∧ f3 ≥ 0 then (if f2 < 0 then 0 else if f2 ≥ (l8.length : Int) then 0 else entryS (rd_L1 l8 f2) f3) else entryS (selS l0 l1 l2 l3 l4 l5 l6 l7 f1) f2 := rfl
  have HE1 := Lib.hid e1
  clear hC hsel hsl hsC e1
  generalize selS l0 l1 l2 l3 l4 l5 l6 l7 f1 = ls at *
  go_quiet (fail)
  clear hlook
  have HW9 := Lib.hid (pw_below_drewN HW8.out nq)
  by_cases h4 : f1 = 4
  · subst h4
    by_cases h3 : f3 ≥ 0
    · have HPV := HE1
      rw [if_pos ⟨rfl, h3⟩] at HPV
      have hb3 : decide (0 ≤ f3) = true := decide_eq_true h3
      by_cases h2 : f2 < 0
      · have hb2 : decide (f2 < 0) = true := decide_eq_true h2
        go_wp2_with fail
        go_ret
        exact ⟨ret_int (by rw [HPV.out, if_pos h2]), pw_below_drewN HW8.out _⟩
      · have hb2 : decide (f2 < 0) = false := decide_eq_false h2
        by_cases h1 : (l8.length : Int) ≤ f2
        · go_wp2_with fail
          go_ret
          exact ⟨ret_int (by rw [HPV.out, if_neg (show ¬ f2 < 0 by omega), if_pos (show f2 ≥ (l8.length : Int) by omega)]), pw_below_drewN HW8.out _⟩
        · obtain ⟨ad8, An, cn, rfl, g8, hl8, hC8⟩ := at_L1 (Kd.C_below G8.out HW8.out) f2 (by omega) (by omega)
          rw [if_neg h2, if_neg h1] at HPV
          have k1 : 0 ≤ f2 := by omega
          have k2 : f2 < (l8.length : Int) := by omega
          generalize rd_L1 l8 f2 = row at *
          have HC8 := Lib.hid hC8
          have hm8 : row.length ≤ 9223372036854775807 := hC8.2.1
          have HL8 := Lib.hid hl8
          clear hC8 hl8
          go_wp2_with fail
          go_quiet (fail)
          by_cases hi : f3 < 0
          · have hb : decide (f3 < 0) = true := decide_eq_true hi
            go_wp2_with fail
            go_ret
            exact ⟨ret_int (by rw [HPV.out]; unfold entryS; rw [if_pos hi]), pw_below_drewN HW8.out _⟩
          · have hb : decide (f3 < 0) = false := decide_eq_false hi
            by_cases hj : (row.length : Int) ≤ f3
            · go_wp2_with fail
              go_ret
              exact ⟨ret_int (by rw [HPV.out]; unfold entryS; rw [if_neg (show ¬ f3 < 0 by omega), if_pos (show f3 ≥ (row.length : Int) by omega)]), pw_below_drewN HW8.out _⟩
            · obtain ⟨ad, e9, g9⟩ := Kd.at_int HC8.out f3 (by omega) (by omega)
              cases e9
              have hi' : 0 ≤ f3 := by omega
              have hj' : f3 < (row.length : Int) := by omega
              go_wp2_with fail
              go_ret
              exact ⟨ret_int (by rw [HPV.out]; unfold entryS; rw [if_neg (show ¬ f3 < 0 by omega), if_neg (show ¬ f3 ≥ (row.length : Int) by omega)]), pw_below_drewN HW8.out _⟩
    · have HPV := HE1
      rw [if_neg (fun h => h3 h.2)] at HPV
      have hb3 : decide (0 ≤ f3) = false := decide_eq_false h3
      by_cases hi : f2 < 0
      · have hb : decide (f2 < 0) = true := decide_eq_true hi
        go_wp2_with fail
        go_ret
        exact ⟨ret_int (by rw [HPV.out]; unfold entryS; rw [if_pos hi]), pw_below_drewN HW8.out _⟩
      · have hb : decide (f2 < 0) = false := decide_eq_false hi
        by_cases hj : (ls.length : Int) ≤ f2
        · go_wp2_with fail
          go_ret
          exact ⟨ret_int (by rw [HPV.out]; unfold entryS; rw [if_neg (show ¬ f2 < 0 by omega), if_pos (show f2 ≥ (ls.length : Int) by omega)]), pw_below_drewN HW8.out _⟩
        · obtain ⟨ad, e9, g9⟩ := Kd.at_int HSC.out f2 (by omega) (by omega)
          cases e9
          have hi' : 0 ≤ f2 := by omega
          have hj' : f2 < (ls.length : Int) := by omega
          go_wp2_with fail
          go_ret
          exact ⟨ret_int (by rw [HPV.out]; unfold entryS; rw [if_neg (show ¬ f2 < 0 by omega), if_neg (show ¬ f2 ≥ (ls.length : Int) by omega)]), pw_below_drewN HW8.out _⟩
  · have HPV := HE1
    rw [if_neg (fun h => h4 h.1)] at HPV
    have hb4 : (f1 == 4) = false := beq_eq_false_iff_ne.2 h4
    by_cases hi : f2 < 0
    · have hb : decide (f2 < 0) = true := decide_eq_true hi
      go_wp2_with fail
      go_ret
      exact ⟨ret_int (by rw [HPV.out]; unfold entryS; rw [if_pos hi]), pw_below_drewN HW8.out _⟩
    · have hb : decide (f2 < 0) = false := decide_eq_false hi
      by_cases hj : (ls.length : Int) ≤ f2
      · go_wp2_with fail
        go_ret
        exact ⟨ret_int (by rw [HPV.out]; unfold entryS; rw [if_neg (show ¬ f2 < 0 by omega), if_pos (show f2 ≥ (ls.length : Int) by omega)]), pw_below_drewN HW8.out _⟩
      · obtain ⟨ad, e9, g9⟩ := Kd.at_int HSC.out f2 (by omega) (by omega)
        cases e9
        have hi' : 0 ≤ f2 := by omega
        have hj' : f2 < (ls.length : Int) := by omega
        go_wp2_with fail
        go_ret
        exact ⟨ret_int (by rw [HPV.out]; unfold entryS; rw [if_neg (show ¬ f2 < 0 by omega), if_neg (show ¬ f2 ≥ (ls.length : Int) by omega)]), pw_below_drewN HW8.out _⟩
end Go.Proofs.Ytcijanmckhlpiaa
