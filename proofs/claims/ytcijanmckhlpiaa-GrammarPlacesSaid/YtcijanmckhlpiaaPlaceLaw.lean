import Derived.Test.YtcijanmckhlpiaaPlaceState
import Derived.StillTailTactics
namespace Go.Proofs.Ytcijanmckhlpiaa
open Go.RowKit Go.Proofs.YtcijanmckhlpiaaW.PrintWords Go.Proofs.YtcijanmckhlpiaaW.PrintLast Go.Proofs.YtcijanmckhlpiaaW.PrintMore Go.Proofs.Ytcijanmckhlpiaa.PGrammarPlaces
set_option linter.unusedVariables false
set_option linter.unusedSimpArgs false

abbrev hdK := hK
theorem hK_M (W : World) (base : Nat) (ok : Nat → Prop) (b n c : Nat) : hK.M W base ok (b, n, c) [.slice (some ⟨b, 0, none⟩) n c] := rfl
theorem oK_M (W : World) (base : Nat) (ok : Nat → Prop) (A : Option Addr) (n c : Nat) : oK.M W base ok (A, n, c) [.slice A n c] := rfl
theorem bnd {n i m : Nat} (h : n = 8 + i) (hi : i < m) (hz : (m + 9) * 24 ≤ 140737488355328) : (n + 1) * 24 ≤ 140737488355328 := by omega
theorem bnd0 {n i m : Nat} (h : n = i) (hi : i < m) (hz : (m + 9) * 24 ≤ 140737488355328) : (n + 1) * 24 ≤ 140737488355328 := by omega
theorem at_sc' {α : Type} {enc : α → Value} {h1 : ∀ x, (enc x).oneCell' = true} {W : World} {e base : Nat} {ok : Nat → Prop} {g n c : Nat} {xs : List α} (h : (Kd.scalar enc h1).R e W base ok (.slice (some ⟨g, 0, none⟩) n c) xs) (i : Nat) (x : α) (hx : xs[i]? = some x) : W.cell? ⟨g, i, none⟩ = some (enc x) := by
  have h := at_sc (Kd.R_reads' h).2.2 i x hx
  rwa [add_plain] at h
theorem quiet_ex {P : Program} {f : FuncId} {args : Array Value} {w : World} {n : Nat} {v : Value}
    (h : Calls P f args (w.drewN n) fun e w' => e = .returned v ∧ ∃ m, w' = (w.drewN n).drewN m) :
    Calls P f args (w.drewN n) fun e w'' => e = .returned v ∧ ∃ m, w'' = w.drewN m :=
  h.mono fun _ _ ⟨he, m, hm⟩ => ⟨he, n + m, by rw [hm, World.drewN_drewN]⟩
theorem now_fields {w W : World} {spc fc : Array Value} {sb : Nat} {m0 m1 m2 m3 m4 m5 m6 m7 : Value} {um uw : Value} {An : Option Addr} {cn : Nat} {hs : List Hd} {ws : List Oh} {rows : List (List Int)} {i : Nat} {b0 n0 k0 : Nat} {b1 n1 k1 : Nat} {b2 n2 k2 : Nat} {b3 n3 k3 : Nat} {b4 n4 k4 : Nat} {b5 n5 k5 : Nat} {b6 n6 k6 : Nat} {b7 n7 k7 : Nat}
    (h : PI w spc fc sb m0 m1 m2 m3 m4 m5 m6 m7 um uw (.slice An (hs.drop 8).length cn) hs ws (hs.drop 8) rows i W) (hw : WS w ws rows) (h8 : hs.take 8 = [(b0, n0, k0), (b1, n1, k1), (b2, n2, k2), (b3, n3, k3), (b4, n4, k4), (b5, n5, k5), (b6, n6, k6), (b7, n7, k7)]) :
    ∃ (x0 x1 x2 x3 x4 x5 x6 x7 : List Int) (x8 : List (List Int)), (i = 0 → rows = x0 :: x1 :: x2 :: x3 :: x4 :: x5 :: x6 :: x7 :: x8) ∧ (n0 = x0.length ∧ x0.length ≤ k0 ∧ kI.C W (some ⟨b0, 0, none⟩) x0.length x0) ∧ (n1 = x1.length ∧ x1.length ≤ k1 ∧ kI.C W (some ⟨b1, 0, none⟩) x1.length x1) ∧ (n2 = x2.length ∧ x2.length ≤ k2 ∧ kI.C W (some ⟨b2, 0, none⟩) x2.length x2) ∧ (n3 = x3.length ∧ x3.length ≤ k3 ∧ kI.C W (some ⟨b3, 0, none⟩) x3.length x3) ∧ (n4 = x4.length ∧ x4.length ≤ k4 ∧ kI.C W (some ⟨b4, 0, none⟩) x4.length x4) ∧ (n5 = x5.length ∧ x5.length ≤ k5 ∧ kI.C W (some ⟨b5, 0, none⟩) x5.length x5) ∧ (n6 = x6.length ∧ x6.length ≤ k6 ∧ kI.C W (some ⟨b6, 0, none⟩) x6.length x6) ∧ (n7 = x7.length ∧ x7.length ≤ k7 ∧ kI.C W (some ⟨b7, 0, none⟩) x7.length x7) ∧ (hs.drop 8).length = x8.length ∧ x8.length ≤ cn ∧ (Kd.slice 3 kI).C W An x8.length x8 := by
  have hr := Kd.R_reads' h.rn
  obtain ⟨cur, hcl, hcur, h0⟩ : ∃ cur : List (List Int), cur.length = rows.length ∧ (∀ (j : Nat) (hd : Hd) (xs : List Int), hs[j]? = some hd → cur[j]? = some xs → hd.2.1 = xs.length ∧ xs.length + 2 ≤ hd.2.2 ∧ IB W hd.1 xs) ∧ (i = 0 → rows = cur) := by
    by_cases hi : i = 0
    · refine ⟨rows, rfl, fun j hd xs hj hx => ?_, fun _ => rfl⟩
      obtain ⟨g1, g2, _, _, g5, _⟩ := h.gs.inner j hd xs hj hx
      exact ⟨g1, g2, (g5 (by omega)).take⟩
    · obtain ⟨cur, g1, g2⟩ := h.gs.now
      exact ⟨cur, g1, g2, fun e => absurd e hi⟩
  have hb : ∀ x ∈ cur, x.length ≤ 9223372036854775807 := by
    intro x hx
    obtain ⟨j, hj⟩ := List.mem_iff_getElem?.1 hx
    have hjl := (List.getElem?_eq_some_iff.1 hj).1
    have e1 : hs[j]? = some (hs[j]'(by have := h.gs.len; omega)) := List.getElem?_eq_getElem _
    have e2 : ws[j]? = some (ws[j]'(by have := hw.len; omega)) := List.getElem?_eq_getElem _
    have e3 : rows[j]? = some (rows[j]'(by omega)) := List.getElem?_eq_getElem _
    obtain ⟨g1, _⟩ := h.gs.inner j _ _ e1 e3
    obtain ⟨_, _, _, g2⟩ := hw.at_ j _ _ e2 e3
    obtain ⟨g3, _⟩ := hcur j _ _ e1 hj
    omega
  obtain ⟨x0, x1, x2, x3, x4, x5, x6, x7, x8, e, p0, p1, p2, p3, p4, p5, p6, p7, e8, hC⟩ := fields h8 hr.2.2 (by have := h.gs.len; omega) hcur hb
  refine ⟨x0, x1, x2, x3, x4, x5, x6, x7, x8, fun hi => (h0 hi).trans e, p0, p1, p2, p3, p4, p5, p6, p7, e8, by omega, ?_⟩
  rwa [e8] at hC
theorem info33 : (Try.prog.info? 33).map (fun i => (i.zero, i.size, i.bytes)) = some (some (.slice none 0 0), 1, 24) := by kernel_rfl
set_option maxRecDepth 100000 in
set_option maxHeartbeats 8000000 in
theorem grammarPlaces_any (A0 : Option Addr) (c0 : Nat) (l0 : List Int) (A1 : Option Addr) (c1 : Nat) (l1 : List Int) (A2 : Option Addr) (c2 : Nat) (l2 : List Int) (A3 : Option Addr) (c3 : Nat) (l3 : List Int) (A4 : Option Addr) (c4 : Nat) (l4 : List Int) (A5 : Option Addr) (c5 : Nat) (l5 : List Int) (A6 : Option Addr) (c6 : Nat) (l6 : List Int) (A7 : Option Addr) (c7 : Nat) (l7 : List Int) (A8 : Option Addr) (c8 : Nat) (l8 : List (List Int)) (f0 f1 f2 f3 : Int) (w : World) (h0 : kI.C w A0 l0.length l0) (d0 : l0.length ≤ c0) (z0 : (l0.length + 2) * 8 ≤ 140737488355328) (h1 : kI.C w A1 l1.length l1) (d1 : l1.length ≤ c1) (z1 : (l1.length + 2) * 8 ≤ 140737488355328) (h2 : kI.C w A2 l2.length l2) (d2 : l2.length ≤ c2) (z2 : (l2.length + 2) * 8 ≤ 140737488355328) (h3 : kI.C w A3 l3.length l3) (d3 : l3.length ≤ c3) (z3 : (l3.length + 2) * 8 ≤ 140737488355328) (h4 : kI.C w A4 l4.length l4) (d4 : l4.length ≤ c4) (z4 : (l4.length + 2) * 8 ≤ 140737488355328) (h5 : kI.C w A5 l5.length l5) (d5 : l5.length ≤ c5) (z5 : (l5.length + 2) * 8 ≤ 140737488355328) (h6 : kI.C w A6 l6.length l6) (d6 : l6.length ≤ c6) (z6 : (l6.length + 2) * 8 ≤ 140737488355328) (h7 : kI.C w A7 l7.length l7) (d7 : l7.length ≤ c7) (z7 : (l7.length + 2) * 8 ≤ 140737488355328) (h8 : (Kd.slice 3 kI).C w A8 l8.length l8) (d8 : l8.length ≤ c8) (z8 : (l8.length + 9) * 24 ≤ 140737488355328) (hy : ∀ x ∈ l8, (x.length + 2) * 8 ≤ 140737488355328) :
    Calls Try.prog 4 #[.agg #[.slice A0 l0.length c0, .slice A1 l1.length c1, .slice A2 l2.length c2, .slice A3 l3.length c3, .slice A4 l4.length c4, .slice A5 l5.length c5, .slice A6 l6.length c6, .slice A7 l7.length c7, .slice A8 l8.length c8], .agg #[.int .i64 f0, .int .i64 f1, .int .i64 f2, .int .i64 f3]] w fun e w' => e = .returned (.bool true) ∧ Below w.heap.size w w' := by
  have G0 := Lib.hid h0
  have D0 := Lib.hid d0
  have Z0 := Lib.hid z0
  have G1 := Lib.hid h1
  have D1 := Lib.hid d1
  have Z1 := Lib.hid z1
  have G2 := Lib.hid h2
  have D2 := Lib.hid d2
  have Z2 := Lib.hid z2
  have G3 := Lib.hid h3
  have D3 := Lib.hid d3
  have Z3 := Lib.hid z3
  have G4 := Lib.hid h4
  have D4 := Lib.hid d4
  have Z4 := Lib.hid z4
  have G5 := Lib.hid h5
  have D5 := Lib.hid d5
  have Z5 := Lib.hid z5
  have G6 := Lib.hid h6
  have D6 := Lib.hid d6
  have Z6 := Lib.hid z6
  have G7 := Lib.hid h7
  have D7 := Lib.hid d7
  have Z7 := Lib.hid z7
  have G8 := Lib.hid h8
  have D8 := Lib.hid d8
  have Z8 := Lib.hid z8
  have HY := Lib.hid hy
  clear hy h0 d0 z0 h1 d1 z1 h2 d2 z2 h3 d3 z3 h4 d4 z4 h5 d5 z5 h6 d6 z6 h7 d7 z7 h8 d8 z8
  have tok : True := trivial
  go_enter Try.func4, Try.ntmps4
  go_wp2_with fail
  have HX0 := Lib.hid (blk_alloc (blk_new w (.cells #[Value.slice A0 l0.length c0, Value.slice A1 l1.length c1, Value.slice A2 l2.length c2, Value.slice A3 l3.length c3, Value.slice A4 l4.length c4, Value.slice A5 l5.length c5, Value.slice A6 l6.length c6, Value.slice A7 l7.length c7, Value.slice A8 l8.length c8] 35)) (.cells #[Value.int .i64 f0, .int .i64 f1, .int .i64 f2, .int .i64 f3] 39))
  have HF0 := Lib.hid (blk_new1 w (.cells #[Value.slice A0 l0.length c0, Value.slice A1 l1.length c1, Value.slice A2 l2.length c2, Value.slice A3 l3.length c3, Value.slice A4 l4.length c4, Value.slice A5 l5.length c5, Value.slice A6 l6.length c6, Value.slice A7 l7.length c7, Value.slice A8 l8.length c8] 35) (.cells #[Value.int .i64 f0, .int .i64 f1, .int .i64 f2, .int .i64 f3] 39))
  have HB0 := Lib.hid (below_alloc (below_alloc (Below.refl _ w) (.cells #[Value.slice A0 l0.length c0, Value.slice A1 l1.length c1, Value.slice A2 l2.length c2, Value.slice A3 l3.length c3, Value.slice A4 l4.length c4, Value.slice A5 l5.length c5, Value.slice A6 l6.length c6, Value.slice A7 l7.length c7, Value.slice A8 l8.length c8] 35)) (.cells #[Value.int .i64 f0, .int .i64 f1, .int .i64 f2, .int .i64 f3] 39))
  have HZ0 : Hid (((w.alloc (.cells #[Value.slice A0 l0.length c0, Value.slice A1 l1.length c1, Value.slice A2 l2.length c2, Value.slice A3 l3.length c3, Value.slice A4 l4.length c4, Value.slice A5 l5.length c5, Value.slice A6 l6.length c6, Value.slice A7 l7.length c7, Value.slice A8 l8.length c8] 35)).alloc (.cells #[Value.int .i64 f0, .int .i64 f1, .int .i64 f2, .int .i64 f3] 39)).heap.size = w.heap.size + 1 + 1) := by show _ = _; simp
  generalize hV0 : (w.alloc (.cells #[Value.slice A0 l0.length c0, Value.slice A1 l1.length c1, Value.slice A2 l2.length c2, Value.slice A3 l3.length c3, Value.slice A4 l4.length c4, Value.slice A5 l5.length c5, Value.slice A6 l6.length c6, Value.slice A7 l7.length c7, Value.slice A8 l8.length c8] 35)).alloc (.cells #[Value.int .i64 f0, .int .i64 f1, .int .i64 f2, .int .i64 f3] 39) = V0 at *
  clear hV0
  have HXd := Lib.hid (show V0.drew.heap[w.heap.size]? = _ from HX0.out)
  have HFd := Lib.hid (show V0.drew.heap[w.heap.size + 1]? = _ from HF0.out)
  refine start_ (n := 26) (S := fun w' => w'.cell? ⟨w.heap.size, 0, none⟩ = some (.slice A0 l0.length c0) ∧ w'.cell? ⟨w.heap.size, 1, none⟩ = some (.slice A1 l1.length c1) ∧ w'.cell? ⟨w.heap.size, 2, none⟩ = some (.slice A2 l2.length c2) ∧ w'.cell? ⟨w.heap.size, 3, none⟩ = some (.slice A3 l3.length c3) ∧ w'.cell? ⟨w.heap.size, 4, none⟩ = some (.slice A4 l4.length c4) ∧ w'.cell? ⟨w.heap.size, 5, none⟩ = some (.slice A5 l5.length c5) ∧ w'.cell? ⟨w.heap.size, 6, none⟩ = some (.slice A6 l6.length c6) ∧ w'.cell? ⟨w.heap.size, 7, none⟩ = some (.slice A7 l7.length c7)) (ds := []) #[false, false, false, false, false, false, false, false, false, false, false, false, false, false, false, false, false, false, false, false, false, false, false, false, false, false] (by kernel_rfl) rfl rfl ⟨blk_cell HX0.out 0, blk_cell HX0.out 1, blk_cell HX0.out 2, blk_cell HX0.out 3, blk_cell HX0.out 4, blk_cell HX0.out 5, blk_cell HX0.out 6, blk_cell HX0.out 7⟩ (fun hHeld => ?_)
  refine pure_ (i := 0) (N := some 13) (v := ?_) (a' := ?_) #[true, false, false, false, false, false, false, false, false, false, false, false, false, false, false, false, false, false, false, false, false, false, false, false, false, false] rfl rfl (by kernel_rfl) (fun _ _ _ h => h) (Or.inl ⟨by rfl, ?_⟩) ?_ ?_
  rotate_left
  · intro w'
    go_simp
    with_reducible rfl
  rotate_left
  · simp only [Act.put, List.setIfInBounds_toArray, List.set_cons_zero, List.set_cons_succ, i64_w, i32_w]
    rfl
  refine pure_ (i := 3) (N := some 16) (v := ?_) (a' := ?_) #[true, false, false, true, false, false, false, false, false, false, false, false, false, false, false, false, false, false, false, false, false, false, false, false, false, false] rfl rfl (by kernel_rfl) (fun _ _ _ h => h) (Or.inl ⟨by rfl, ?_⟩) ?_ ?_
  rotate_left
  · intro w'
    go_simp
    with_reducible rfl
  rotate_left
  · simp only [Act.put, List.setIfInBounds_toArray, List.set_cons_zero, List.set_cons_succ, i64_w, i32_w]
    rfl
  refine pure_ (i := 6) (N := some 19) (v := ?_) (a' := ?_) #[true, false, false, true, false, false, true, false, false, false, false, false, false, false, false, false, false, false, false, false, false, false, false, false, false, false] rfl rfl (by kernel_rfl) (fun _ _ _ h => h) (Or.inl ⟨by rfl, ?_⟩) ?_ ?_
  rotate_left
  · intro w'
    go_simp
    with_reducible rfl
  rotate_left
  · simp only [Act.put, List.setIfInBounds_toArray, List.set_cons_zero, List.set_cons_succ, i64_w, i32_w]
    rfl
  refine pure_ (i := 9) (N := some 22) (v := ?_) (a' := ?_) #[true, false, false, true, false, false, true, false, false, true, false, false, false, false, false, false, false, false, false, false, false, false, false, false, false, false] rfl rfl (by kernel_rfl) (fun _ _ _ h => h) (Or.inl ⟨by rfl, ?_⟩) ?_ ?_
  rotate_left
  · intro w'
    go_simp
    with_reducible rfl
  rotate_left
  · simp only [Act.put, List.setIfInBounds_toArray, List.set_cons_zero, List.set_cons_succ, i64_w, i32_w]
    rfl
  refine pure_ (i := 12) (N := some 25) (v := ?_) (a' := ?_) #[true, false, false, true, false, false, true, false, false, true, false, false, true, false, false, false, false, false, false, false, false, false, false, false, false, false] rfl rfl (by kernel_rfl) (fun _ _ _ h => h) (Or.inl ⟨by rfl, ?_⟩) ?_ ?_
  rotate_left
  · intro w'
    go_simp
    with_reducible rfl
  rotate_left
  · simp only [Act.put, List.setIfInBounds_toArray, List.set_cons_zero, List.set_cons_succ, i64_w, i32_w]
    rfl
  refine pure_ (i := 15) (N := some 28) (v := ?_) (a' := ?_) #[true, false, false, true, false, false, true, false, false, true, false, false, true, false, false, true, false, false, false, false, false, false, false, false, false, false] rfl rfl (by kernel_rfl) (fun _ _ _ h => h) (Or.inl ⟨by rfl, ?_⟩) ?_ ?_
  rotate_left
  · intro w'
    go_simp
    with_reducible rfl
  rotate_left
  · simp only [Act.put, List.setIfInBounds_toArray, List.set_cons_zero, List.set_cons_succ, i64_w, i32_w]
    rfl
  refine pure_ (i := 18) (N := some 31) (v := ?_) (a' := ?_) #[true, false, false, true, false, false, true, false, false, true, false, false, true, false, false, true, false, false, true, false, false, false, false, false, false, false] rfl rfl (by kernel_rfl) (fun _ _ _ h => h) (Or.inl ⟨by rfl, ?_⟩) ?_ ?_
  rotate_left
  · intro w'
    go_simp
    with_reducible rfl
  rotate_left
  · simp only [Act.put, List.setIfInBounds_toArray, List.set_cons_zero, List.set_cons_succ, i64_w, i32_w]
    rfl
  refine pure_ (i := 21) (N := some 34) (v := ?_) (a' := ?_) #[true, false, false, true, false, false, true, false, false, true, false, false, true, false, false, true, false, false, true, false, false, true, false, false, false, false] rfl rfl (by kernel_rfl) (fun _ _ _ h => h) (Or.inl ⟨by rfl, ?_⟩) ?_ ?_
  rotate_left
  · intro w'
    go_simp
    with_reducible rfl
  rotate_left
  · simp only [Act.put, List.setIfInBounds_toArray, List.set_cons_zero, List.set_cons_succ, i64_w, i32_w]
    rfl
  refine take_ (i := 1) (N := some 14) (v := ?_) (a' := ?_) #[true, true, false, true, false, false, true, false, false, true, false, false, true, false, false, true, false, false, true, false, false, true, false, false, false, false] rfl rfl (by kernel_rfl) (fun _ _ _ h => h) (Or.inl ⟨by rfl, ?_⟩) hHeld ?_ ?_
  rotate_left
  · rintro w' ⟨s0, s1, s2, s3, s4, s5, s6, s7⟩
    go_simp
    with_reducible rfl
  rotate_left
  · simp only [Act.put, List.setIfInBounds_toArray, List.set_cons_zero, List.set_cons_succ, i64_w, i32_w]
    rfl
  refine take_ (i := 4) (N := some 17) (v := ?_) (a' := ?_) #[true, true, false, true, true, false, true, false, false, true, false, false, true, false, false, true, false, false, true, false, false, true, false, false, false, false] rfl rfl (by kernel_rfl) (fun _ _ _ h => h) (Or.inl ⟨by rfl, ?_⟩) hHeld ?_ ?_
  rotate_left
  · rintro w' ⟨s0, s1, s2, s3, s4, s5, s6, s7⟩
    go_simp
    with_reducible rfl
  rotate_left
  · simp only [Act.put, List.setIfInBounds_toArray, List.set_cons_zero, List.set_cons_succ, i64_w, i32_w]
    rfl
  refine take_ (i := 7) (N := some 20) (v := ?_) (a' := ?_) #[true, true, false, true, true, false, true, true, false, true, false, false, true, false, false, true, false, false, true, false, false, true, false, false, false, false] rfl rfl (by kernel_rfl) (fun _ _ _ h => h) (Or.inl ⟨by rfl, ?_⟩) hHeld ?_ ?_
  rotate_left
  · rintro w' ⟨s0, s1, s2, s3, s4, s5, s6, s7⟩
    go_simp
    with_reducible rfl
  rotate_left
  · simp only [Act.put, List.setIfInBounds_toArray, List.set_cons_zero, List.set_cons_succ, i64_w, i32_w]
    rfl
  refine take_ (i := 10) (N := some 23) (v := ?_) (a' := ?_) #[true, true, false, true, true, false, true, true, false, true, true, false, true, false, false, true, false, false, true, false, false, true, false, false, false, false] rfl rfl (by kernel_rfl) (fun _ _ _ h => h) (Or.inl ⟨by rfl, ?_⟩) hHeld ?_ ?_
  rotate_left
  · rintro w' ⟨s0, s1, s2, s3, s4, s5, s6, s7⟩
    go_simp
    with_reducible rfl
  rotate_left
  · simp only [Act.put, List.setIfInBounds_toArray, List.set_cons_zero, List.set_cons_succ, i64_w, i32_w]
    rfl
  refine take_ (i := 13) (N := some 26) (v := ?_) (a' := ?_) #[true, true, false, true, true, false, true, true, false, true, true, false, true, true, false, true, false, false, true, false, false, true, false, false, false, false] rfl rfl (by kernel_rfl) (fun _ _ _ h => h) (Or.inl ⟨by rfl, ?_⟩) hHeld ?_ ?_
  rotate_left
  · rintro w' ⟨s0, s1, s2, s3, s4, s5, s6, s7⟩
    go_simp
    with_reducible rfl
  rotate_left
  · simp only [Act.put, List.setIfInBounds_toArray, List.set_cons_zero, List.set_cons_succ, i64_w, i32_w]
    rfl
  refine take_ (i := 16) (N := some 29) (v := ?_) (a' := ?_) #[true, true, false, true, true, false, true, true, false, true, true, false, true, true, false, true, true, false, true, false, false, true, false, false, false, false] rfl rfl (by kernel_rfl) (fun _ _ _ h => h) (Or.inl ⟨by rfl, ?_⟩) hHeld ?_ ?_
  rotate_left
  · rintro w' ⟨s0, s1, s2, s3, s4, s5, s6, s7⟩
    go_simp
    with_reducible rfl
  rotate_left
  · simp only [Act.put, List.setIfInBounds_toArray, List.set_cons_zero, List.set_cons_succ, i64_w, i32_w]
    rfl
  refine take_ (i := 19) (N := some 32) (v := ?_) (a' := ?_) #[true, true, false, true, true, false, true, true, false, true, true, false, true, true, false, true, true, false, true, true, false, true, false, false, false, false] rfl rfl (by kernel_rfl) (fun _ _ _ h => h) (Or.inl ⟨by rfl, ?_⟩) hHeld ?_ ?_
  rotate_left
  · rintro w' ⟨s0, s1, s2, s3, s4, s5, s6, s7⟩
    go_simp
    with_reducible rfl
  rotate_left
  · simp only [Act.put, List.setIfInBounds_toArray, List.set_cons_zero, List.set_cons_succ, i64_w, i32_w]
    rfl
  refine take_ (i := 22) (N := some 35) (v := ?_) (a' := ?_) #[true, true, false, true, true, false, true, true, false, true, true, false, true, true, false, true, true, false, true, true, false, true, true, false, false, false] rfl rfl (by kernel_rfl) (fun _ _ _ h => h) (Or.inl ⟨by rfl, ?_⟩) hHeld ?_ ?_
  rotate_left
  · rintro w' ⟨s0, s1, s2, s3, s4, s5, s6, s7⟩
    go_simp
    with_reducible rfl
  rotate_left
  · simp only [Act.put, List.setIfInBounds_toArray, List.set_cons_zero, List.set_cons_succ, i64_w, i32_w]
    rfl
  refine one_ (i := 2) (N := some 15) #[true, true, true, true, true, false, true, true, false, true, true, false, true, true, false, true, true, false, true, true, false, true, true, false, false, false] rfl rfl (by kernel_rfl) (by decide) (fun K hK => ?_)
  refine goes_ Try.func15 (by kernel_rfl) rfl #[.slice A0 l0.length c0] (by rfl) rfl rfl (by simp only [List.map_toArray, List.map_cons, List.map_nil]; rfl) ?_
  with_reducible refine (roomyInts_any A0 c0 l0 V0.drew (Kd.C_below G0.out HB0.out.drew) Z0.out).mono ?_
  rintro e V1 ⟨b0, k0, rfl, hk, hb, hlt, hI, hbel⟩
  refine ⟨_, rfl, ?_⟩
  have HX1 := Lib.hid (blk_below HXd.out hbel)
  have HF1 := Lib.hid (blk_below HFd.out hbel)
  have HB1 := Lib.hid (below_step HB0.out.drew hbel)
  have HZ1 : Hid (w.heap.size + 1 + 1 ≤ V1.heap.size) := by have := hbel.size; have := HZ0.out; show _ ≤ _; simp only [World.drew] at *; omega
  have HG1 : Hid (GS w.heap.size [(b0, l0.length, k0)] [l0] 0 V1) := GS.snoc (GS.nil w.heap.size V0.drew) hbel hk hb (by have := HZ0.out; show _ ≤ V0.heap.size; omega) hlt hI
  clear hk hb hlt hI hbel HXd HFd
  refine hK.out _ _ ⟨blk_cell HX1.out 0, blk_cell HX1.out 1, blk_cell HX1.out 2, blk_cell HX1.out 3, blk_cell HX1.out 4, blk_cell HX1.out 5, blk_cell HX1.out 6, blk_cell HX1.out 7⟩ (fun hHeld => ?_)
  clear hK K
  refine norm_ (a' := ?_) ?_ ?_
  rotate_left
  · show Act.put _ (some 15) _ = _
    simp only [Act.put, List.setIfInBounds_toArray, List.set_cons_zero, List.set_cons_succ, i64_w, i32_w]
    rfl
  refine one_ (i := 5) (N := some 18) #[true, true, true, true, true, true, true, true, false, true, true, false, true, true, false, true, true, false, true, true, false, true, true, false, false, false] rfl rfl (by kernel_rfl) (by decide) (fun K hK => ?_)
  refine goes_ Try.func15 (by kernel_rfl) rfl #[.slice A1 l1.length c1] (by rfl) rfl rfl (by simp only [List.map_toArray, List.map_cons, List.map_nil]; rfl) ?_
  with_reducible refine (roomyInts_any A1 c1 l1 V1 (Kd.C_below G1.out HB1.out) Z1.out).mono ?_
  rintro e V2 ⟨b1, k1, rfl, hk, hb, hlt, hI, hbel⟩
  refine ⟨_, rfl, ?_⟩
  have HX2 := Lib.hid (blk_below HX1.out hbel)
  have HF2 := Lib.hid (blk_below HF1.out hbel)
  have HB2 := Lib.hid (below_step HB1.out hbel)
  have HZ2 : Hid (w.heap.size + 1 + 1 ≤ V2.heap.size) := by have := hbel.size; have := HZ1.out; show _ ≤ _; simp only [World.drew] at *; omega
  have HG2 : Hid (GS w.heap.size [(b0, l0.length, k0), (b1, l1.length, k1)] [l0, l1] 0 V2) := GS.snoc HG1.out hbel hk hb (by have := HZ1.out; show _ ≤ V1.heap.size; omega) hlt hI
  clear hk hb hlt hI hbel HX1 HF1 HG1
  refine hK.out _ _ ⟨blk_cell HX2.out 0, blk_cell HX2.out 1, blk_cell HX2.out 2, blk_cell HX2.out 3, blk_cell HX2.out 4, blk_cell HX2.out 5, blk_cell HX2.out 6, blk_cell HX2.out 7⟩ (fun hHeld => ?_)
  clear hK K
  refine norm_ (a' := ?_) ?_ ?_
  rotate_left
  · show Act.put _ (some 18) _ = _
    simp only [Act.put, List.setIfInBounds_toArray, List.set_cons_zero, List.set_cons_succ, i64_w, i32_w]
    rfl
  refine one_ (i := 8) (N := some 21) #[true, true, true, true, true, true, true, true, true, true, true, false, true, true, false, true, true, false, true, true, false, true, true, false, false, false] rfl rfl (by kernel_rfl) (by decide) (fun K hK => ?_)
  refine goes_ Try.func15 (by kernel_rfl) rfl #[.slice A2 l2.length c2] (by rfl) rfl rfl (by simp only [List.map_toArray, List.map_cons, List.map_nil]; rfl) ?_
  with_reducible refine (roomyInts_any A2 c2 l2 V2 (Kd.C_below G2.out HB2.out) Z2.out).mono ?_
  rintro e V3 ⟨b2, k2, rfl, hk, hb, hlt, hI, hbel⟩
  refine ⟨_, rfl, ?_⟩
  have HX3 := Lib.hid (blk_below HX2.out hbel)
  have HF3 := Lib.hid (blk_below HF2.out hbel)
  have HB3 := Lib.hid (below_step HB2.out hbel)
  have HZ3 : Hid (w.heap.size + 1 + 1 ≤ V3.heap.size) := by have := hbel.size; have := HZ2.out; show _ ≤ _; simp only [World.drew] at *; omega
  have HG3 : Hid (GS w.heap.size [(b0, l0.length, k0), (b1, l1.length, k1), (b2, l2.length, k2)] [l0, l1, l2] 0 V3) := GS.snoc HG2.out hbel hk hb (by have := HZ2.out; show _ ≤ V2.heap.size; omega) hlt hI
  clear hk hb hlt hI hbel HX2 HF2 HG2
  refine hK.out _ _ ⟨blk_cell HX3.out 0, blk_cell HX3.out 1, blk_cell HX3.out 2, blk_cell HX3.out 3, blk_cell HX3.out 4, blk_cell HX3.out 5, blk_cell HX3.out 6, blk_cell HX3.out 7⟩ (fun hHeld => ?_)
  clear hK K
  refine norm_ (a' := ?_) ?_ ?_
  rotate_left
  · show Act.put _ (some 21) _ = _
    simp only [Act.put, List.setIfInBounds_toArray, List.set_cons_zero, List.set_cons_succ, i64_w, i32_w]
    rfl
  refine one_ (i := 11) (N := some 24) #[true, true, true, true, true, true, true, true, true, true, true, true, true, true, false, true, true, false, true, true, false, true, true, false, false, false] rfl rfl (by kernel_rfl) (by decide) (fun K hK => ?_)
  refine goes_ Try.func15 (by kernel_rfl) rfl #[.slice A3 l3.length c3] (by rfl) rfl rfl (by simp only [List.map_toArray, List.map_cons, List.map_nil]; rfl) ?_
  with_reducible refine (roomyInts_any A3 c3 l3 V3 (Kd.C_below G3.out HB3.out) Z3.out).mono ?_
  rintro e V4 ⟨b3, k3, rfl, hk, hb, hlt, hI, hbel⟩
  refine ⟨_, rfl, ?_⟩
  have HX4 := Lib.hid (blk_below HX3.out hbel)
  have HF4 := Lib.hid (blk_below HF3.out hbel)
  have HB4 := Lib.hid (below_step HB3.out hbel)
  have HZ4 : Hid (w.heap.size + 1 + 1 ≤ V4.heap.size) := by have := hbel.size; have := HZ3.out; show _ ≤ _; simp only [World.drew] at *; omega
  have HG4 : Hid (GS w.heap.size [(b0, l0.length, k0), (b1, l1.length, k1), (b2, l2.length, k2), (b3, l3.length, k3)] [l0, l1, l2, l3] 0 V4) := GS.snoc HG3.out hbel hk hb (by have := HZ3.out; show _ ≤ V3.heap.size; omega) hlt hI
  clear hk hb hlt hI hbel HX3 HF3 HG3
  refine hK.out _ _ ⟨blk_cell HX4.out 0, blk_cell HX4.out 1, blk_cell HX4.out 2, blk_cell HX4.out 3, blk_cell HX4.out 4, blk_cell HX4.out 5, blk_cell HX4.out 6, blk_cell HX4.out 7⟩ (fun hHeld => ?_)
  clear hK K
  refine norm_ (a' := ?_) ?_ ?_
  rotate_left
  · show Act.put _ (some 24) _ = _
    simp only [Act.put, List.setIfInBounds_toArray, List.set_cons_zero, List.set_cons_succ, i64_w, i32_w]
    rfl
  refine one_ (i := 14) (N := some 27) #[true, true, true, true, true, true, true, true, true, true, true, true, true, true, true, true, true, false, true, true, false, true, true, false, false, false] rfl rfl (by kernel_rfl) (by decide) (fun K hK => ?_)
  refine goes_ Try.func15 (by kernel_rfl) rfl #[.slice A4 l4.length c4] (by rfl) rfl rfl (by simp only [List.map_toArray, List.map_cons, List.map_nil]; rfl) ?_
  with_reducible refine (roomyInts_any A4 c4 l4 V4 (Kd.C_below G4.out HB4.out) Z4.out).mono ?_
  rintro e V5 ⟨b4, k4, rfl, hk, hb, hlt, hI, hbel⟩
  refine ⟨_, rfl, ?_⟩
  have HX5 := Lib.hid (blk_below HX4.out hbel)
  have HF5 := Lib.hid (blk_below HF4.out hbel)
  have HB5 := Lib.hid (below_step HB4.out hbel)
  have HZ5 : Hid (w.heap.size + 1 + 1 ≤ V5.heap.size) := by have := hbel.size; have := HZ4.out; show _ ≤ _; simp only [World.drew] at *; omega
  have HG5 : Hid (GS w.heap.size [(b0, l0.length, k0), (b1, l1.length, k1), (b2, l2.length, k2), (b3, l3.length, k3), (b4, l4.length, k4)] [l0, l1, l2, l3, l4] 0 V5) := GS.snoc HG4.out hbel hk hb (by have := HZ4.out; show _ ≤ V4.heap.size; omega) hlt hI
  clear hk hb hlt hI hbel HX4 HF4 HG4
  refine hK.out _ _ ⟨blk_cell HX5.out 0, blk_cell HX5.out 1, blk_cell HX5.out 2, blk_cell HX5.out 3, blk_cell HX5.out 4, blk_cell HX5.out 5, blk_cell HX5.out 6, blk_cell HX5.out 7⟩ (fun hHeld => ?_)
  clear hK K
  refine norm_ (a' := ?_) ?_ ?_
  rotate_left
  · show Act.put _ (some 27) _ = _
    simp only [Act.put, List.setIfInBounds_toArray, List.set_cons_zero, List.set_cons_succ, i64_w, i32_w]
    rfl
  refine one_ (i := 17) (N := some 30) #[true, true, true, true, true, true, true, true, true, true, true, true, true, true, true, true, true, true, true, true, false, true, true, false, false, false] rfl rfl (by kernel_rfl) (by decide) (fun K hK => ?_)
  refine goes_ Try.func15 (by kernel_rfl) rfl #[.slice A5 l5.length c5] (by rfl) rfl rfl (by simp only [List.map_toArray, List.map_cons, List.map_nil]; rfl) ?_
  with_reducible refine (roomyInts_any A5 c5 l5 V5 (Kd.C_below G5.out HB5.out) Z5.out).mono ?_
  rintro e V6 ⟨b5, k5, rfl, hk, hb, hlt, hI, hbel⟩
  refine ⟨_, rfl, ?_⟩
  have HX6 := Lib.hid (blk_below HX5.out hbel)
  have HF6 := Lib.hid (blk_below HF5.out hbel)
  have HB6 := Lib.hid (below_step HB5.out hbel)
  have HZ6 : Hid (w.heap.size + 1 + 1 ≤ V6.heap.size) := by have := hbel.size; have := HZ5.out; show _ ≤ _; simp only [World.drew] at *; omega
  have HG6 : Hid (GS w.heap.size [(b0, l0.length, k0), (b1, l1.length, k1), (b2, l2.length, k2), (b3, l3.length, k3), (b4, l4.length, k4), (b5, l5.length, k5)] [l0, l1, l2, l3, l4, l5] 0 V6) := GS.snoc HG5.out hbel hk hb (by have := HZ5.out; show _ ≤ V5.heap.size; omega) hlt hI
  clear hk hb hlt hI hbel HX5 HF5 HG5
  refine hK.out _ _ ⟨blk_cell HX6.out 0, blk_cell HX6.out 1, blk_cell HX6.out 2, blk_cell HX6.out 3, blk_cell HX6.out 4, blk_cell HX6.out 5, blk_cell HX6.out 6, blk_cell HX6.out 7⟩ (fun hHeld => ?_)
  clear hK K
  refine norm_ (a' := ?_) ?_ ?_
  rotate_left
  · show Act.put _ (some 30) _ = _
    simp only [Act.put, List.setIfInBounds_toArray, List.set_cons_zero, List.set_cons_succ, i64_w, i32_w]
    rfl
  refine one_ (i := 20) (N := some 33) #[true, true, true, true, true, true, true, true, true, true, true, true, true, true, true, true, true, true, true, true, true, true, true, false, false, false] rfl rfl (by kernel_rfl) (by decide) (fun K hK => ?_)
  refine goes_ Try.func15 (by kernel_rfl) rfl #[.slice A6 l6.length c6] (by rfl) rfl rfl (by simp only [List.map_toArray, List.map_cons, List.map_nil]; rfl) ?_
  with_reducible refine (roomyInts_any A6 c6 l6 V6 (Kd.C_below G6.out HB6.out) Z6.out).mono ?_
  rintro e V7 ⟨b6, k6, rfl, hk, hb, hlt, hI, hbel⟩
  refine ⟨_, rfl, ?_⟩
  have HX7 := Lib.hid (blk_below HX6.out hbel)
  have HF7 := Lib.hid (blk_below HF6.out hbel)
  have HB7 := Lib.hid (below_step HB6.out hbel)
  have HZ7 : Hid (w.heap.size + 1 + 1 ≤ V7.heap.size) := by have := hbel.size; have := HZ6.out; show _ ≤ _; simp only [World.drew] at *; omega
  have HG7 : Hid (GS w.heap.size [(b0, l0.length, k0), (b1, l1.length, k1), (b2, l2.length, k2), (b3, l3.length, k3), (b4, l4.length, k4), (b5, l5.length, k5), (b6, l6.length, k6)] [l0, l1, l2, l3, l4, l5, l6] 0 V7) := GS.snoc HG6.out hbel hk hb (by have := HZ6.out; show _ ≤ V6.heap.size; omega) hlt hI
  clear hk hb hlt hI hbel HX6 HF6 HG6
  refine hK.out _ _ ⟨blk_cell HX7.out 0, blk_cell HX7.out 1, blk_cell HX7.out 2, blk_cell HX7.out 3, blk_cell HX7.out 4, blk_cell HX7.out 5, blk_cell HX7.out 6, blk_cell HX7.out 7⟩ (fun hHeld => ?_)
  clear hK K
  refine norm_ (a' := ?_) ?_ ?_
  rotate_left
  · show Act.put _ (some 33) _ = _
    simp only [Act.put, List.setIfInBounds_toArray, List.set_cons_zero, List.set_cons_succ, i64_w, i32_w]
    rfl
  refine one_ (i := 23) (N := some 36) #[true, true, true, true, true, true, true, true, true, true, true, true, true, true, true, true, true, true, true, true, true, true, true, true, false, false] rfl rfl (by kernel_rfl) (by decide) (fun K hK => ?_)
  refine goes_ Try.func15 (by kernel_rfl) rfl #[.slice A7 l7.length c7] (by rfl) rfl rfl (by simp only [List.map_toArray, List.map_cons, List.map_nil]; rfl) ?_
  with_reducible refine (roomyInts_any A7 c7 l7 V7 (Kd.C_below G7.out HB7.out) Z7.out).mono ?_
  rintro e V8 ⟨b7, k7, rfl, hk, hb, hlt, hI, hbel⟩
  refine ⟨_, rfl, ?_⟩
  have HX8 := Lib.hid (blk_below HX7.out hbel)
  have HF8 := Lib.hid (blk_below HF7.out hbel)
  have HB8 := Lib.hid (below_step HB7.out hbel)
  have HZ8 : Hid (w.heap.size + 1 + 1 ≤ V8.heap.size) := by have := hbel.size; have := HZ7.out; show _ ≤ _; simp only [World.drew] at *; omega
  have HG8 : Hid (GS w.heap.size [(b0, l0.length, k0), (b1, l1.length, k1), (b2, l2.length, k2), (b3, l3.length, k3), (b4, l4.length, k4), (b5, l5.length, k5), (b6, l6.length, k6), (b7, l7.length, k7)] [l0, l1, l2, l3, l4, l5, l6, l7] 0 V8) := GS.snoc HG7.out hbel hk hb (by have := HZ7.out; show _ ≤ V7.heap.size; omega) hlt hI
  clear hk hb hlt hI hbel HX7 HF7 HG7
  refine hK.out _ _ ⟨blk_cell HX8.out 0, blk_cell HX8.out 1, blk_cell HX8.out 2, blk_cell HX8.out 3, blk_cell HX8.out 4, blk_cell HX8.out 5, blk_cell HX8.out 6, blk_cell HX8.out 7⟩ (fun hHeld => ?_)
  clear hK K
  refine norm_ (a' := ?_) ?_ ?_
  rotate_left
  · show Act.put _ (some 36) _ = _
    simp only [Act.put, List.setIfInBounds_toArray, List.set_cons_zero, List.set_cons_succ, i64_w, i32_w]
    rfl
  refine one_ (i := 24) (N := some 37) #[true, true, true, true, true, true, true, true, true, true, true, true, true, true, true, true, true, true, true, true, true, true, true, true, true, false] rfl rfl (by kernel_rfl) (by decide) (fun K hK => ?_)
  refine value_ (w1 := ?_) (v := ?_) (by rfl) rfl ?_ ?_
  rotate_left 2
  · go_simp
    constructor
    · rfl
    · rfl
  refine hK.out _ _ ⟨blk_cell (blk_alloc HX8.out _) 0, blk_cell (blk_alloc HX8.out _) 1, blk_cell (blk_alloc HX8.out _) 2, blk_cell (blk_alloc HX8.out _) 3, blk_cell (blk_alloc HX8.out _) 4, blk_cell (blk_alloc HX8.out _) 5, blk_cell (blk_alloc HX8.out _) 6, blk_cell (blk_alloc HX8.out _) 7⟩ (fun hHeld => ?_)
  clear hK K
  refine norm_ (a' := ?_) ?_ ?_
  rotate_left
  · show Act.put _ (some 37) _ = _
    simp only [Act.put, List.setIfInBounds_toArray, List.set_cons_zero, List.set_cons_succ, i64_w, i32_w]
    rfl
  refine pure_ (i := 25) (N := some 5) (v := ?_) (a' := ?_) #[true, true, true, true, true, true, true, true, true, true, true, true, true, true, true, true, true, true, true, true, true, true, true, true, true, true] rfl rfl (by kernel_rfl) (fun _ _ _ h => h) (Or.inl ⟨by rfl, ?_⟩) ?_ ?_
  rotate_left
  · intro w'
    go_simp
    with_reducible rfl
  rotate_left
  · simp only [Act.put, List.setIfInBounds_toArray, List.set_cons_zero, List.set_cons_succ, i64_w, i32_w]
    rfl
  refine done_ (by kernel_rfl) ?_
  have HXa := Lib.hid (blk_alloc HX8.out (.cells #[Value.slice (some ⟨b0, 0, none⟩) l0.length k0, Value.slice (some ⟨b1, 0, none⟩) l1.length k1, Value.slice (some ⟨b2, 0, none⟩) l2.length k2, Value.slice (some ⟨b3, 0, none⟩) l3.length k3, Value.slice (some ⟨b4, 0, none⟩) l4.length k4, Value.slice (some ⟨b5, 0, none⟩) l5.length k5, Value.slice (some ⟨b6, 0, none⟩) l6.length k6, Value.slice (some ⟨b7, 0, none⟩) l7.length k7] 33))
  have HFa := Lib.hid (blk_alloc HF8.out (.cells #[Value.slice (some ⟨b0, 0, none⟩) l0.length k0, Value.slice (some ⟨b1, 0, none⟩) l1.length k1, Value.slice (some ⟨b2, 0, none⟩) l2.length k2, Value.slice (some ⟨b3, 0, none⟩) l3.length k3, Value.slice (some ⟨b4, 0, none⟩) l4.length k4, Value.slice (some ⟨b5, 0, none⟩) l5.length k5, Value.slice (some ⟨b6, 0, none⟩) l6.length k6, Value.slice (some ⟨b7, 0, none⟩) l7.length k7] 33))
  have HMa := Lib.hid (blk_new V8 (.cells #[Value.slice (some ⟨b0, 0, none⟩) l0.length k0, Value.slice (some ⟨b1, 0, none⟩) l1.length k1, Value.slice (some ⟨b2, 0, none⟩) l2.length k2, Value.slice (some ⟨b3, 0, none⟩) l3.length k3, Value.slice (some ⟨b4, 0, none⟩) l4.length k4, Value.slice (some ⟨b5, 0, none⟩) l5.length k5, Value.slice (some ⟨b6, 0, none⟩) l6.length k6, Value.slice (some ⟨b7, 0, none⟩) l7.length k7] 33))
  have HBa := Lib.hid (below_alloc HB8.out (.cells #[Value.slice (some ⟨b0, 0, none⟩) l0.length k0, Value.slice (some ⟨b1, 0, none⟩) l1.length k1, Value.slice (some ⟨b2, 0, none⟩) l2.length k2, Value.slice (some ⟨b3, 0, none⟩) l3.length k3, Value.slice (some ⟨b4, 0, none⟩) l4.length k4, Value.slice (some ⟨b5, 0, none⟩) l5.length k5, Value.slice (some ⟨b6, 0, none⟩) l6.length k6, Value.slice (some ⟨b7, 0, none⟩) l7.length k7] 33))
  have HZa : Hid ((V8.alloc (.cells #[Value.slice (some ⟨b0, 0, none⟩) l0.length k0, Value.slice (some ⟨b1, 0, none⟩) l1.length k1, Value.slice (some ⟨b2, 0, none⟩) l2.length k2, Value.slice (some ⟨b3, 0, none⟩) l3.length k3, Value.slice (some ⟨b4, 0, none⟩) l4.length k4, Value.slice (some ⟨b5, 0, none⟩) l5.length k5, Value.slice (some ⟨b6, 0, none⟩) l6.length k6, Value.slice (some ⟨b7, 0, none⟩) l7.length k7] 33)).heap.size = V8.heap.size + 1) := by show _ = _; simp
  have HGa := Lib.hid (HG8.out.below (below_alloc (Below.refl _ V8) (.cells #[Value.slice (some ⟨b0, 0, none⟩) l0.length k0, Value.slice (some ⟨b1, 0, none⟩) l1.length k1, Value.slice (some ⟨b2, 0, none⟩) l2.length k2, Value.slice (some ⟨b3, 0, none⟩) l3.length k3, Value.slice (some ⟨b4, 0, none⟩) l4.length k4, Value.slice (some ⟨b5, 0, none⟩) l5.length k5, Value.slice (some ⟨b6, 0, none⟩) l6.length k6, Value.slice (some ⟨b7, 0, none⟩) l7.length k7] 33)))
  clear HG8 HX8 HF8
  generalize hVa : V8.alloc (.cells #[Value.slice (some ⟨b0, 0, none⟩) l0.length k0, Value.slice (some ⟨b1, 0, none⟩) l1.length k1, Value.slice (some ⟨b2, 0, none⟩) l2.length k2, Value.slice (some ⟨b3, 0, none⟩) l3.length k3, Value.slice (some ⟨b4, 0, none⟩) l4.length k4, Value.slice (some ⟨b5, 0, none⟩) l5.length k5, Value.slice (some ⟨b6, 0, none⟩) l6.length k6, Value.slice (some ⟨b7, 0, none⟩) l7.length k7] 33) = Va at *
  clear hVa
  have p0 := blk_cell HXa.out 0
  have p1 := blk_cell HXa.out 1
  have p2 := blk_cell HXa.out 2
  have p3 := blk_cell HXa.out 3
  have p4 := blk_cell HXa.out 4
  have p5 := blk_cell HXa.out 5
  have p6 := blk_cell HXa.out 6
  have p7 := blk_cell HXa.out 7
  simp only [List.getElem?_toArray, List.getElem?_cons_zero, List.getElem?_cons_succ] at p0 p1 p2 p3 p4 p5 p6 p7
  go_wp2_with fail
  have HXb := Lib.hid (blk_alloc HXa.out (.cells #[Value.slice A0 l0.length c0, Value.slice A1 l1.length c1, Value.slice A2 l2.length c2, Value.slice A3 l3.length c3, Value.slice A4 l4.length c4, Value.slice A5 l5.length c5, Value.slice A6 l6.length c6, Value.slice A7 l7.length c7] 33))
  have HFb := Lib.hid (blk_alloc HFa.out (.cells #[Value.slice A0 l0.length c0, Value.slice A1 l1.length c1, Value.slice A2 l2.length c2, Value.slice A3 l3.length c3, Value.slice A4 l4.length c4, Value.slice A5 l5.length c5, Value.slice A6 l6.length c6, Value.slice A7 l7.length c7] 33))
  have HMb := Lib.hid (blk_alloc HMa.out (.cells #[Value.slice A0 l0.length c0, Value.slice A1 l1.length c1, Value.slice A2 l2.length c2, Value.slice A3 l3.length c3, Value.slice A4 l4.length c4, Value.slice A5 l5.length c5, Value.slice A6 l6.length c6, Value.slice A7 l7.length c7] 33))
  have HWb := Lib.hid (blk_new Va (.cells #[Value.slice A0 l0.length c0, Value.slice A1 l1.length c1, Value.slice A2 l2.length c2, Value.slice A3 l3.length c3, Value.slice A4 l4.length c4, Value.slice A5 l5.length c5, Value.slice A6 l6.length c6, Value.slice A7 l7.length c7] 33))
  have HBb := Lib.hid (below_alloc HBa.out (.cells #[Value.slice A0 l0.length c0, Value.slice A1 l1.length c1, Value.slice A2 l2.length c2, Value.slice A3 l3.length c3, Value.slice A4 l4.length c4, Value.slice A5 l5.length c5, Value.slice A6 l6.length c6, Value.slice A7 l7.length c7] 33))
  have HGb := Lib.hid (HGa.out.below (below_alloc (Below.refl _ Va) (.cells #[Value.slice A0 l0.length c0, Value.slice A1 l1.length c1, Value.slice A2 l2.length c2, Value.slice A3 l3.length c3, Value.slice A4 l4.length c4, Value.slice A5 l5.length c5, Value.slice A6 l6.length c6, Value.slice A7 l7.length c7] 33)))
  have HZb : Hid ((Va.alloc (.cells #[Value.slice A0 l0.length c0, Value.slice A1 l1.length c1, Value.slice A2 l2.length c2, Value.slice A3 l3.length c3, Value.slice A4 l4.length c4, Value.slice A5 l5.length c5, Value.slice A6 l6.length c6, Value.slice A7 l7.length c7] 33)).heap.size = V8.heap.size + 1 + 1) := by have := HZa.out; show _ = _; simp; omega
  clear HXa HFa HMa HGa p0 p1 p2 p3 p4 p5 p6 p7
  generalize hVb : Va.alloc (.cells #[Value.slice A0 l0.length c0, Value.slice A1 l1.length c1, Value.slice A2 l2.length c2, Value.slice A3 l3.length c3, Value.slice A4 l4.length c4, Value.slice A5 l5.length c5, Value.slice A6 l6.length c6, Value.slice A7 l7.length c7] 33) = Vb at *
  clear hVb
  refine start_ (n := 27) (S := fun w' => w'.cell? ⟨V8.heap.size, 0, none⟩ = some (.slice (some ⟨b0, 0, none⟩) l0.length k0) ∧ w'.cell? ⟨V8.heap.size, 1, none⟩ = some (.slice (some ⟨b1, 0, none⟩) l1.length k1) ∧ w'.cell? ⟨V8.heap.size, 2, none⟩ = some (.slice (some ⟨b2, 0, none⟩) l2.length k2) ∧ w'.cell? ⟨V8.heap.size, 3, none⟩ = some (.slice (some ⟨b3, 0, none⟩) l3.length k3) ∧ w'.cell? ⟨V8.heap.size, 4, none⟩ = some (.slice (some ⟨b4, 0, none⟩) l4.length k4) ∧ w'.cell? ⟨V8.heap.size, 5, none⟩ = some (.slice (some ⟨b5, 0, none⟩) l5.length k5) ∧ w'.cell? ⟨V8.heap.size, 6, none⟩ = some (.slice (some ⟨b6, 0, none⟩) l6.length k6) ∧ w'.cell? ⟨V8.heap.size, 7, none⟩ = some (.slice (some ⟨b7, 0, none⟩) l7.length k7)) (ds := [26]) #[false, false, false, false, false, false, false, false, false, false, false, false, false, false, false, false, false, false, false, false, false, false, false, false, false, false, false] (by kernel_rfl) rfl rfl ⟨blk_cell HMb.out 0, blk_cell HMb.out 1, blk_cell HMb.out 2, blk_cell HMb.out 3, blk_cell HMb.out 4, blk_cell HMb.out 5, blk_cell HMb.out 6, blk_cell HMb.out 7⟩ (fun hHeld => ?_)
  refine pure_ (i := 0) (N := some 55) (v := ?_) (a' := ?_) #[true, false, false, false, false, false, false, false, false, false, false, false, false, false, false, false, false, false, false, false, false, false, false, false, false, false, false] rfl rfl (by kernel_rfl) (fun _ _ _ h => h) (Or.inl ⟨by rfl, ?_⟩) ?_ ?_
  rotate_left
  · intro w'
    go_simp
    with_reducible rfl
  rotate_left
  · simp only [Act.put, List.setIfInBounds_toArray, List.set_cons_zero, List.set_cons_succ, i64_w, i32_w]
    rfl
  refine pure_ (i := 1) (N := some 56) (v := ?_) (a' := ?_) #[true, true, false, false, false, false, false, false, false, false, false, false, false, false, false, false, false, false, false, false, false, false, false, false, false, false, false] rfl rfl (by kernel_rfl) (fun _ _ _ h => h) (Or.inl ⟨by rfl, ?_⟩) ?_ ?_
  rotate_left
  · intro w'
    go_simp
    with_reducible rfl
  rotate_left
  · simp only [Act.put, List.setIfInBounds_toArray, List.set_cons_zero, List.set_cons_succ, i64_w, i32_w]
    rfl
  refine pure_ (i := 3) (N := some 58) (v := ?_) (a' := ?_) #[true, true, false, true, false, false, false, false, false, false, false, false, false, false, false, false, false, false, false, false, false, false, false, false, false, false, false] rfl rfl (by kernel_rfl) (fun _ _ _ h => h) (Or.inl ⟨by rfl, ?_⟩) ?_ ?_
  rotate_left
  · intro w'
    go_simp
    with_reducible rfl
  rotate_left
  · simp only [Act.put, List.setIfInBounds_toArray, List.set_cons_zero, List.set_cons_succ, i64_w, i32_w]
    rfl
  refine pure_ (i := 4) (N := some 59) (v := ?_) (a' := ?_) #[true, true, false, true, true, false, false, false, false, false, false, false, false, false, false, false, false, false, false, false, false, false, false, false, false, false, false] rfl rfl (by kernel_rfl) (fun _ _ _ h => h) (Or.inl ⟨by rfl, ?_⟩) ?_ ?_
  rotate_left
  · intro w'
    go_simp
    with_reducible rfl
  rotate_left
  · simp only [Act.put, List.setIfInBounds_toArray, List.set_cons_zero, List.set_cons_succ, i64_w, i32_w]
    rfl
  refine pure_ (i := 6) (N := some 61) (v := ?_) (a' := ?_) #[true, true, false, true, true, false, true, false, false, false, false, false, false, false, false, false, false, false, false, false, false, false, false, false, false, false, false] rfl rfl (by kernel_rfl) (fun _ _ _ h => h) (Or.inl ⟨by rfl, ?_⟩) ?_ ?_
  rotate_left
  · intro w'
    go_simp
    with_reducible rfl
  rotate_left
  · simp only [Act.put, List.setIfInBounds_toArray, List.set_cons_zero, List.set_cons_succ, i64_w, i32_w]
    rfl
  refine pure_ (i := 7) (N := some 62) (v := ?_) (a' := ?_) #[true, true, false, true, true, false, true, true, false, false, false, false, false, false, false, false, false, false, false, false, false, false, false, false, false, false, false] rfl rfl (by kernel_rfl) (fun _ _ _ h => h) (Or.inl ⟨by rfl, ?_⟩) ?_ ?_
  rotate_left
  · intro w'
    go_simp
    with_reducible rfl
  rotate_left
  · simp only [Act.put, List.setIfInBounds_toArray, List.set_cons_zero, List.set_cons_succ, i64_w, i32_w]
    rfl
  refine pure_ (i := 9) (N := some 64) (v := ?_) (a' := ?_) #[true, true, false, true, true, false, true, true, false, true, false, false, false, false, false, false, false, false, false, false, false, false, false, false, false, false, false] rfl rfl (by kernel_rfl) (fun _ _ _ h => h) (Or.inl ⟨by rfl, ?_⟩) ?_ ?_
  rotate_left
  · intro w'
    go_simp
    with_reducible rfl
  rotate_left
  · simp only [Act.put, List.setIfInBounds_toArray, List.set_cons_zero, List.set_cons_succ, i64_w, i32_w]
    rfl
  refine pure_ (i := 10) (N := some 65) (v := ?_) (a' := ?_) #[true, true, false, true, true, false, true, true, false, true, true, false, false, false, false, false, false, false, false, false, false, false, false, false, false, false, false] rfl rfl (by kernel_rfl) (fun _ _ _ h => h) (Or.inl ⟨by rfl, ?_⟩) ?_ ?_
  rotate_left
  · intro w'
    go_simp
    with_reducible rfl
  rotate_left
  · simp only [Act.put, List.setIfInBounds_toArray, List.set_cons_zero, List.set_cons_succ, i64_w, i32_w]
    rfl
  refine pure_ (i := 12) (N := some 67) (v := ?_) (a' := ?_) #[true, true, false, true, true, false, true, true, false, true, true, false, true, false, false, false, false, false, false, false, false, false, false, false, false, false, false] rfl rfl (by kernel_rfl) (fun _ _ _ h => h) (Or.inl ⟨by rfl, ?_⟩) ?_ ?_
  rotate_left
  · intro w'
    go_simp
    with_reducible rfl
  rotate_left
  · simp only [Act.put, List.setIfInBounds_toArray, List.set_cons_zero, List.set_cons_succ, i64_w, i32_w]
    rfl
  refine pure_ (i := 13) (N := some 68) (v := ?_) (a' := ?_) #[true, true, false, true, true, false, true, true, false, true, true, false, true, true, false, false, false, false, false, false, false, false, false, false, false, false, false] rfl rfl (by kernel_rfl) (fun _ _ _ h => h) (Or.inl ⟨by rfl, ?_⟩) ?_ ?_
  rotate_left
  · intro w'
    go_simp
    with_reducible rfl
  rotate_left
  · simp only [Act.put, List.setIfInBounds_toArray, List.set_cons_zero, List.set_cons_succ, i64_w, i32_w]
    rfl
  refine pure_ (i := 15) (N := some 70) (v := ?_) (a' := ?_) #[true, true, false, true, true, false, true, true, false, true, true, false, true, true, false, true, false, false, false, false, false, false, false, false, false, false, false] rfl rfl (by kernel_rfl) (fun _ _ _ h => h) (Or.inl ⟨by rfl, ?_⟩) ?_ ?_
  rotate_left
  · intro w'
    go_simp
    with_reducible rfl
  rotate_left
  · simp only [Act.put, List.setIfInBounds_toArray, List.set_cons_zero, List.set_cons_succ, i64_w, i32_w]
    rfl
  refine pure_ (i := 16) (N := some 71) (v := ?_) (a' := ?_) #[true, true, false, true, true, false, true, true, false, true, true, false, true, true, false, true, true, false, false, false, false, false, false, false, false, false, false] rfl rfl (by kernel_rfl) (fun _ _ _ h => h) (Or.inl ⟨by rfl, ?_⟩) ?_ ?_
  rotate_left
  · intro w'
    go_simp
    with_reducible rfl
  rotate_left
  · simp only [Act.put, List.setIfInBounds_toArray, List.set_cons_zero, List.set_cons_succ, i64_w, i32_w]
    rfl
  refine pure_ (i := 18) (N := some 73) (v := ?_) (a' := ?_) #[true, true, false, true, true, false, true, true, false, true, true, false, true, true, false, true, true, false, true, false, false, false, false, false, false, false, false] rfl rfl (by kernel_rfl) (fun _ _ _ h => h) (Or.inl ⟨by rfl, ?_⟩) ?_ ?_
  rotate_left
  · intro w'
    go_simp
    with_reducible rfl
  rotate_left
  · simp only [Act.put, List.setIfInBounds_toArray, List.set_cons_zero, List.set_cons_succ, i64_w, i32_w]
    rfl
  refine pure_ (i := 19) (N := some 74) (v := ?_) (a' := ?_) #[true, true, false, true, true, false, true, true, false, true, true, false, true, true, false, true, true, false, true, true, false, false, false, false, false, false, false] rfl rfl (by kernel_rfl) (fun _ _ _ h => h) (Or.inl ⟨by rfl, ?_⟩) ?_ ?_
  rotate_left
  · intro w'
    go_simp
    with_reducible rfl
  rotate_left
  · simp only [Act.put, List.setIfInBounds_toArray, List.set_cons_zero, List.set_cons_succ, i64_w, i32_w]
    rfl
  refine pure_ (i := 21) (N := some 76) (v := ?_) (a' := ?_) #[true, true, false, true, true, false, true, true, false, true, true, false, true, true, false, true, true, false, true, true, false, true, false, false, false, false, false] rfl rfl (by kernel_rfl) (fun _ _ _ h => h) (Or.inl ⟨by rfl, ?_⟩) ?_ ?_
  rotate_left
  · intro w'
    go_simp
    with_reducible rfl
  rotate_left
  · simp only [Act.put, List.setIfInBounds_toArray, List.set_cons_zero, List.set_cons_succ, i64_w, i32_w]
    rfl
  refine pure_ (i := 22) (N := some 77) (v := ?_) (a' := ?_) #[true, true, false, true, true, false, true, true, false, true, true, false, true, true, false, true, true, false, true, true, false, true, true, false, false, false, false] rfl rfl (by kernel_rfl) (fun _ _ _ h => h) (Or.inl ⟨by rfl, ?_⟩) ?_ ?_
  rotate_left
  · intro w'
    go_simp
    with_reducible rfl
  rotate_left
  · simp only [Act.put, List.setIfInBounds_toArray, List.set_cons_zero, List.set_cons_succ, i64_w, i32_w]
    rfl
  refine take_ (i := 2) (N := some 57) (v := ?_) (a' := ?_) #[true, true, true, true, true, false, true, true, false, true, true, false, true, true, false, true, true, false, true, true, false, true, true, false, false, false, false] rfl rfl (by kernel_rfl) (fun _ _ _ h => h) (Or.inl ⟨by rfl, ?_⟩) hHeld ?_ ?_
  rotate_left
  · rintro w' ⟨s0, s1, s2, s3, s4, s5, s6, s7⟩
    go_simp
    with_reducible rfl
  rotate_left
  · simp only [Act.put, List.setIfInBounds_toArray, List.set_cons_zero, List.set_cons_succ, i64_w, i32_w]
    rfl
  refine take_ (i := 5) (N := some 60) (v := ?_) (a' := ?_) #[true, true, true, true, true, true, true, true, false, true, true, false, true, true, false, true, true, false, true, true, false, true, true, false, false, false, false] rfl rfl (by kernel_rfl) (fun _ _ _ h => h) (Or.inl ⟨by rfl, ?_⟩) hHeld ?_ ?_
  rotate_left
  · rintro w' ⟨s0, s1, s2, s3, s4, s5, s6, s7⟩
    go_simp
    with_reducible rfl
  rotate_left
  · simp only [Act.put, List.setIfInBounds_toArray, List.set_cons_zero, List.set_cons_succ, i64_w, i32_w]
    rfl
  refine take_ (i := 8) (N := some 63) (v := ?_) (a' := ?_) #[true, true, true, true, true, true, true, true, true, true, true, false, true, true, false, true, true, false, true, true, false, true, true, false, false, false, false] rfl rfl (by kernel_rfl) (fun _ _ _ h => h) (Or.inl ⟨by rfl, ?_⟩) hHeld ?_ ?_
  rotate_left
  · rintro w' ⟨s0, s1, s2, s3, s4, s5, s6, s7⟩
    go_simp
    with_reducible rfl
  rotate_left
  · simp only [Act.put, List.setIfInBounds_toArray, List.set_cons_zero, List.set_cons_succ, i64_w, i32_w]
    rfl
  refine take_ (i := 11) (N := some 66) (v := ?_) (a' := ?_) #[true, true, true, true, true, true, true, true, true, true, true, true, true, true, false, true, true, false, true, true, false, true, true, false, false, false, false] rfl rfl (by kernel_rfl) (fun _ _ _ h => h) (Or.inl ⟨by rfl, ?_⟩) hHeld ?_ ?_
  rotate_left
  · rintro w' ⟨s0, s1, s2, s3, s4, s5, s6, s7⟩
    go_simp
    with_reducible rfl
  rotate_left
  · simp only [Act.put, List.setIfInBounds_toArray, List.set_cons_zero, List.set_cons_succ, i64_w, i32_w]
    rfl
  refine take_ (i := 14) (N := some 69) (v := ?_) (a' := ?_) #[true, true, true, true, true, true, true, true, true, true, true, true, true, true, true, true, true, false, true, true, false, true, true, false, false, false, false] rfl rfl (by kernel_rfl) (fun _ _ _ h => h) (Or.inl ⟨by rfl, ?_⟩) hHeld ?_ ?_
  rotate_left
  · rintro w' ⟨s0, s1, s2, s3, s4, s5, s6, s7⟩
    go_simp
    with_reducible rfl
  rotate_left
  · simp only [Act.put, List.setIfInBounds_toArray, List.set_cons_zero, List.set_cons_succ, i64_w, i32_w]
    rfl
  refine take_ (i := 17) (N := some 72) (v := ?_) (a' := ?_) #[true, true, true, true, true, true, true, true, true, true, true, true, true, true, true, true, true, true, true, true, false, true, true, false, false, false, false] rfl rfl (by kernel_rfl) (fun _ _ _ h => h) (Or.inl ⟨by rfl, ?_⟩) hHeld ?_ ?_
  rotate_left
  · rintro w' ⟨s0, s1, s2, s3, s4, s5, s6, s7⟩
    go_simp
    with_reducible rfl
  rotate_left
  · simp only [Act.put, List.setIfInBounds_toArray, List.set_cons_zero, List.set_cons_succ, i64_w, i32_w]
    rfl
  refine take_ (i := 20) (N := some 75) (v := ?_) (a' := ?_) #[true, true, true, true, true, true, true, true, true, true, true, true, true, true, true, true, true, true, true, true, true, true, true, false, false, false, false] rfl rfl (by kernel_rfl) (fun _ _ _ h => h) (Or.inl ⟨by rfl, ?_⟩) hHeld ?_ ?_
  rotate_left
  · rintro w' ⟨s0, s1, s2, s3, s4, s5, s6, s7⟩
    go_simp
    with_reducible rfl
  rotate_left
  · simp only [Act.put, List.setIfInBounds_toArray, List.set_cons_zero, List.set_cons_succ, i64_w, i32_w]
    rfl
  refine take_ (i := 23) (N := some 78) (v := ?_) (a' := ?_) #[true, true, true, true, true, true, true, true, true, true, true, true, true, true, true, true, true, true, true, true, true, true, true, true, false, false, false] rfl rfl (by kernel_rfl) (fun _ _ _ h => h) (Or.inl ⟨by rfl, ?_⟩) hHeld ?_ ?_
  rotate_left
  · rintro w' ⟨s0, s1, s2, s3, s4, s5, s6, s7⟩
    go_simp
    with_reducible rfl
  rotate_left
  · simp only [Act.put, List.setIfInBounds_toArray, List.set_cons_zero, List.set_cons_succ, i64_w, i32_w]
    rfl
  refine pure_ (i := 24) (N := some 79) (v := ?_) (a' := ?_) #[true, true, true, true, true, true, true, true, true, true, true, true, true, true, true, true, true, true, true, true, true, true, true, true, true, false, false] rfl rfl (by kernel_rfl) (fun _ _ _ h => h) (Or.inl ⟨by rfl, ?_⟩) ?_ ?_
  rotate_left
  · intro w'
    go_simp
    with_reducible rfl
  rotate_left
  · simp only [Act.put, List.setIfInBounds_toArray, List.set_cons_zero, List.set_cons_succ, i64_w, i32_w]
    rfl
  refine one_ (i := 25) (N := some 7) #[true, true, true, true, true, true, true, true, true, true, true, true, true, true, true, true, true, true, true, true, true, true, true, true, true, true, false] rfl rfl (by kernel_rfl) (by decide) (fun K hK => ?_)
  refine value_ (w1 := ?_) (v := ?_) (by rfl) rfl ?_ ?_
  rotate_left 2
  · go_simp
    constructor
    · rfl
    · rfl
  refine hK.out _ _ ⟨blk_cell (blk_alloc HMb.out _) 0, blk_cell (blk_alloc HMb.out _) 1, blk_cell (blk_alloc HMb.out _) 2, blk_cell (blk_alloc HMb.out _) 3, blk_cell (blk_alloc HMb.out _) 4, blk_cell (blk_alloc HMb.out _) 5, blk_cell (blk_alloc HMb.out _) 6, blk_cell (blk_alloc HMb.out _) 7⟩ (fun hHeld => ?_)
  clear hK K
  refine norm_ (a' := ?_) ?_ ?_
  rotate_left
  · show Act.put _ (some 7) _ = _
    simp only [Act.put, List.setIfInBounds_toArray, List.set_cons_zero, List.set_cons_succ, i64_w, i32_w]
    rfl
  refine last_ (i := 26) (N := none) #[true, true, true, true, true, true, true, true, true, true, true, true, true, true, true, true, true, true, true, true, true, true, true, true, true, true, true] rfl rfl (by kernel_rfl) (by decide) (fun K hK => ?_)
  refine skip_ (w1 := ?_) (by rfl) rfl ?_ ?_
  rotate_left
  · go_simp
    rfl
  refine hK.out _ _ ?_
  clear hK K
  refine done_ (by kernel_rfl) ?_
  have HWS : Hid (WS w [(A0, l0.length, c0), (A1, l1.length, c1), (A2, l2.length, c2), (A3, l3.length, c3), (A4, l4.length, c4), (A5, l5.length, c5), (A6, l6.length, c6), (A7, l7.length, c7)] [l0, l1, l2, l3, l4, l5, l6, l7]) := (((((((((WS.nil w).snoc D0.out G0.out Z0.out).snoc D1.out G1.out Z1.out).snoc D2.out G2.out Z2.out).snoc D3.out G3.out Z3.out).snoc D4.out G4.out Z4.out).snoc D5.out G5.out Z5.out).snoc D6.out G6.out Z6.out).snoc D7.out G7.out Z7.out)
  have HPI : Hid (PI w #[Value.slice A0 l0.length c0, Value.slice A1 l1.length c1, Value.slice A2 l2.length c2, Value.slice A3 l3.length c3, Value.slice A4 l4.length c4, Value.slice A5 l5.length c5, Value.slice A6 l6.length c6, Value.slice A7 l7.length c7, Value.slice A8 l8.length c8] #[Value.int .i64 f0, .int .i64 f1, .int .i64 f2, .int .i64 f3] Vb.heap.size (Value.slice (some ⟨b0, 0, none⟩) l0.length k0) (Value.slice (some ⟨b1, 0, none⟩) l1.length k1) (Value.slice (some ⟨b2, 0, none⟩) l2.length k2) (Value.slice (some ⟨b3, 0, none⟩) l3.length k3) (Value.slice (some ⟨b4, 0, none⟩) l4.length k4) (Value.slice (some ⟨b5, 0, none⟩) l5.length k5) (Value.slice (some ⟨b6, 0, none⟩) l6.length k6) (Value.slice (some ⟨b7, 0, none⟩) l7.length k7) (.slice (some ⟨V8.heap.size, 0, none⟩) 8 8) (.slice (some ⟨Va.heap.size, 0, none⟩) 8 8) (.slice none 0 0) [(b0, l0.length, k0), (b1, l1.length, k1), (b2, l2.length, k2), (b3, l3.length, k3), (b4, l4.length, k4), (b5, l5.length, k5), (b6, l6.length, k6), (b7, l7.length, k7)] [(A0, l0.length, c0), (A1, l1.length, c1), (A2, l2.length, c2), (A3, l3.length, c3), (A4, l4.length, c4), (A5, l5.length, c5), (A6, l6.length, c6), (A7, l7.length, c7)] [] [l0, l1, l2, l3, l4, l5, l6, l7] 0 ((Vb.alloc (.cells #[Value.slice (some ⟨b0, 0, none⟩) l0.length k0, Value.slice (some ⟨b1, 0, none⟩) l1.length k1, Value.slice (some ⟨b2, 0, none⟩) l2.length k2, Value.slice (some ⟨b3, 0, none⟩) l3.length k3, Value.slice (some ⟨b4, 0, none⟩) l4.length k4, Value.slice (some ⟨b5, 0, none⟩) l5.length k5, Value.slice (some ⟨b6, 0, none⟩) l6.length k6, Value.slice (some ⟨b7, 0, none⟩) l7.length k7, Value.slice none 0 0] 35)).drew)) := by
    have hx := blk_alloc HXb.out (.cells #[Value.slice (some ⟨b0, 0, none⟩) l0.length k0, Value.slice (some ⟨b1, 0, none⟩) l1.length k1, Value.slice (some ⟨b2, 0, none⟩) l2.length k2, Value.slice (some ⟨b3, 0, none⟩) l3.length k3, Value.slice (some ⟨b4, 0, none⟩) l4.length k4, Value.slice (some ⟨b5, 0, none⟩) l5.length k5, Value.slice (some ⟨b6, 0, none⟩) l6.length k6, Value.slice (some ⟨b7, 0, none⟩) l7.length k7, Value.slice none 0 0] 35)
    have hf := blk_alloc HFb.out (.cells #[Value.slice (some ⟨b0, 0, none⟩) l0.length k0, Value.slice (some ⟨b1, 0, none⟩) l1.length k1, Value.slice (some ⟨b2, 0, none⟩) l2.length k2, Value.slice (some ⟨b3, 0, none⟩) l3.length k3, Value.slice (some ⟨b4, 0, none⟩) l4.length k4, Value.slice (some ⟨b5, 0, none⟩) l5.length k5, Value.slice (some ⟨b6, 0, none⟩) l6.length k6, Value.slice (some ⟨b7, 0, none⟩) l7.length k7, Value.slice none 0 0] 35)
    have hm := blk_alloc HMb.out (.cells #[Value.slice (some ⟨b0, 0, none⟩) l0.length k0, Value.slice (some ⟨b1, 0, none⟩) l1.length k1, Value.slice (some ⟨b2, 0, none⟩) l2.length k2, Value.slice (some ⟨b3, 0, none⟩) l3.length k3, Value.slice (some ⟨b4, 0, none⟩) l4.length k4, Value.slice (some ⟨b5, 0, none⟩) l5.length k5, Value.slice (some ⟨b6, 0, none⟩) l6.length k6, Value.slice (some ⟨b7, 0, none⟩) l7.length k7, Value.slice none 0 0] 35)
    have hw := blk_alloc HWb.out (.cells #[Value.slice (some ⟨b0, 0, none⟩) l0.length k0, Value.slice (some ⟨b1, 0, none⟩) l1.length k1, Value.slice (some ⟨b2, 0, none⟩) l2.length k2, Value.slice (some ⟨b3, 0, none⟩) l3.length k3, Value.slice (some ⟨b4, 0, none⟩) l4.length k4, Value.slice (some ⟨b5, 0, none⟩) l5.length k5, Value.slice (some ⟨b6, 0, none⟩) l6.length k6, Value.slice (some ⟨b7, 0, none⟩) l7.length k7, Value.slice none 0 0] 35)
    have hzb := HZb.out
    have hza := HZa.out
    have hz8 := HZ8.out
    exact ⟨(below_alloc HBb.out _).drew, hx, hf, blk_new Vb _, by omega, R_lit_of (W := (Vb.alloc (.cells #[Value.slice (some ⟨b0, 0, none⟩) l0.length k0, Value.slice (some ⟨b1, 0, none⟩) l1.length k1, Value.slice (some ⟨b2, 0, none⟩) l2.length k2, Value.slice (some ⟨b3, 0, none⟩) l3.length k3, Value.slice (some ⟨b4, 0, none⟩) l4.length k4, Value.slice (some ⟨b5, 0, none⟩) l5.length k5, Value.slice (some ⟨b6, 0, none⟩) l6.length k6, Value.slice (some ⟨b7, 0, none⟩) l7.length k7, Value.slice none 0 0] 35)).drew) [(b0, l0.length, k0), (b1, l1.length, k1), (b2, l2.length, k2), (b3, l3.length, k3), (b4, l4.length, k4), (b5, l5.length, k5), (b6, l6.length, k6), (b7, l7.length, k7)] hm (by omega) rfl (by simp), R_lit_of (W := (Vb.alloc (.cells #[Value.slice (some ⟨b0, 0, none⟩) l0.length k0, Value.slice (some ⟨b1, 0, none⟩) l1.length k1, Value.slice (some ⟨b2, 0, none⟩) l2.length k2, Value.slice (some ⟨b3, 0, none⟩) l3.length k3, Value.slice (some ⟨b4, 0, none⟩) l4.length k4, Value.slice (some ⟨b5, 0, none⟩) l5.length k5, Value.slice (some ⟨b6, 0, none⟩) l6.length k6, Value.slice (some ⟨b7, 0, none⟩) l7.length k7, Value.slice none 0 0] 35)).drew) [(A0, l0.length, c0), (A1, l1.length, c1), (A2, l2.length, c2), (A3, l3.length, c3), (A4, l4.length, c4), (A5, l5.length, c5), (A6, l6.length, c6), (A7, l7.length, c7)] hw (by omega) rfl (by simp), Kd.R_nil _ _ _ _ _, fun k h e => by simp [Value.ownBlock] at h e; omega, fun k h e => by simp [Value.ownBlock] at e, fun k h e => by simp [Value.ownBlock] at e, HGb.out.below (below_drew (below_alloc (Below.refl _ Vb) (.cells #[Value.slice (some ⟨b0, 0, none⟩) l0.length k0, Value.slice (some ⟨b1, 0, none⟩) l1.length k1, Value.slice (some ⟨b2, 0, none⟩) l2.length k2, Value.slice (some ⟨b3, 0, none⟩) l3.length k3, Value.slice (some ⟨b4, 0, none⟩) l4.length k4, Value.slice (some ⟨b5, 0, none⟩) l5.length k5, Value.slice (some ⟨b6, 0, none⟩) l6.length k6, Value.slice (some ⟨b7, 0, none⟩) l7.length k7, Value.slice none 0 0] 35)))⟩
  generalize hVc : (Vb.alloc (.cells #[Value.slice (some ⟨b0, 0, none⟩) l0.length k0, Value.slice (some ⟨b1, 0, none⟩) l1.length k1, Value.slice (some ⟨b2, 0, none⟩) l2.length k2, Value.slice (some ⟨b3, 0, none⟩) l3.length k3, Value.slice (some ⟨b4, 0, none⟩) l4.length k4, Value.slice (some ⟨b5, 0, none⟩) l5.length k5, Value.slice (some ⟨b6, 0, none⟩) l6.length k6, Value.slice (some ⟨b7, 0, none⟩) l7.length k7, Value.slice none 0 0] 35)).drew = Vc at *
  generalize hsb : Vb.heap.size = sb at *
  have HSB : Hid (w.heap.size + 1 < sb) := HPI.out.sbx
  clear hVc HXb HFb HMb HWb HBb HGb HZb HZa HZ8 HZ0 HX0 HF0 HB0 HB1 HB2 HB3 HB4 HB5 HB6 HB7 HB8 HZ1 HZ2 HZ3 HZ4 HZ5 HZ6 HZ7
  go_wp2_with fail
  go_loopw [5, 6, 8] (fun v5 v6 v8 w' => ∃ (i : Nat) (un : Value) (hs : List Hd) (ws : List Oh), v8 = .int .i64 i ∧ i ≤ l8.length ∧ hs.take 8 = [(b0, l0.length, k0), (b1, l1.length, k1), (b2, l2.length, k2), (b3, l3.length, k3), (b4, l4.length, k4), (b5, l5.length, k5), (b6, l6.length, k6), (b7, l7.length, k7)] ∧ Hid (PI w #[Value.slice A0 l0.length c0, Value.slice A1 l1.length c1, Value.slice A2 l2.length c2, Value.slice A3 l3.length c3, Value.slice A4 l4.length c4, Value.slice A5 l5.length c5, Value.slice A6 l6.length c6, Value.slice A7 l7.length c7, Value.slice A8 l8.length c8] #[Value.int .i64 f0, .int .i64 f1, .int .i64 f2, .int .i64 f3] sb (Value.slice (some ⟨b0, 0, none⟩) l0.length k0) (Value.slice (some ⟨b1, 0, none⟩) l1.length k1) (Value.slice (some ⟨b2, 0, none⟩) l2.length k2) (Value.slice (some ⟨b3, 0, none⟩) l3.length k3) (Value.slice (some ⟨b4, 0, none⟩) l4.length k4) (Value.slice (some ⟨b5, 0, none⟩) l5.length k5) (Value.slice (some ⟨b6, 0, none⟩) l6.length k6) (Value.slice (some ⟨b7, 0, none⟩) l7.length k7) v5 v6 un hs ws (hs.drop 8) ([l0, l1, l2, l3, l4, l5, l6, l7] ++ l8.take i) 0 w') ∧ Hid (WS w ws ([l0, l1, l2, l3, l4, l5, l6, l7] ++ l8.take i))) (fun _ _ v8 _ => l8.length - (intOf v8).toNat)
  case atStart => exact ⟨0, .slice none 0 0, [(b0, l0.length, k0), (b1, l1.length, k1), (b2, l2.length, k2), (b3, l3.length, k3), (b4, l4.length, k4), (b5, l5.length, k5), (b6, l6.length, k6), (b7, l7.length, k7)], [(A0, l0.length, c0), (A1, l1.length, c1), (A2, l2.length, c2), (A3, l3.length, c3), (A4, l4.length, c4), (A5, l5.length, c5), (A6, l6.length, c6), (A7, l7.length, c7)], rfl, Nat.zero_le _, rfl, HPI, HWS⟩
  case round =>
    try clear HPI HWS
    obtain ⟨i, un, hs, ws, rfl, hi, hs8, HI, HS⟩ := hrel
    have HS8 := Lib.hid hs8
    clear hs8
    have q8 := blk_cell HI.out.b1 8
    simp only [List.getElem?_toArray, List.getElem?_cons_zero, List.getElem?_cons_succ] at q8
    have hls : hs.length = 8 + i := by have := HI.out.gs.len; simp only [List.length_append, List.length_cons, List.length_nil, List.length_take] at this; omega
    have hlw : ws.length = 8 + i := by have := HS.out.len; simp only [List.length_append, List.length_cons, List.length_nil, List.length_take] at this; omega
    by_cases hlt : i < l8.length
    · obtain ⟨ad, A, c, rfl, hcell, hle, hC0⟩ := at_L1 G8.out i (by omega) (by omega)
      have hrl := HY.out (rd_L1 l8 i) (by unfold rd_L1; rw [Int.toNat_natCast, List.getD_eq_getElem?_getD, List.getElem?_eq_getElem hlt]; exact List.getElem_mem hlt)
      have hsn : l8.take (i + 1) = l8.take i ++ [rd_L1 l8 i] := by unfold rd_L1; rw [Int.toNat_natCast, List.getD_eq_getElem?_getD, List.getElem?_eq_getElem hlt, List.take_succ_eq_append_getElem hlt]; rfl
      generalize hrow : rd_L1 l8 i = row at *
      have HC := Lib.hid hC0
      have HLE := Lib.hid hle
      have HCE := Lib.hid hcell
      have HRL := Lib.hid hrl
      have HSN := Lib.hid hsn
      have g0 : wr.cell? (ad.add i) = some (.slice A row.length c) := pw_cell_below HI.out.below hcell
      clear hC0 hle hcell hrl hsn hrow
      have j1 : (0 : Int) ≤ (i : Int) := Int.natCast_nonneg _
      have j2 : (i : Int) < (l8.length : Int) := by omega
      go_wp2_with fail
      refine (roomyInts_any A c row wr (Kd.C_below HC.out HI.out.below) HRL.out).mono ?_
      rintro e W1 ⟨b, cap, rfl, hk, hb, hlt1, hI, hbel⟩
      have HI1 := Lib.hid (HI.out.later hbel)
      have HGN : Hid (GS w.heap.size (hs ++ [(b, row.length, cap)]) ([l0, l1, l2, l3, l4, l5, l6, l7] ++ l8.take (i + 1)) 0 W1) := by rw [HSN.out, ← List.append_assoc]; exact HI.out.gs.snoc hbel hk hb HI.out.below.size hlt1 hI
      have HWN : Hid (WS w (ws ++ [(A, row.length, c)]) ([l0, l1, l2, l3, l4, l5, l6, l7] ++ l8.take (i + 1))) := by rw [HSN.out, ← List.append_assoc]; exact HS.out.snoc HLE.out HC.out HRL.out
      have H8N : Hid ((hs ++ [(b, row.length, cap)]).take 8 = [(b0, l0.length, k0), (b1, l1.length, k1), (b2, l2.length, k2), (b3, l3.length, k3), (b4, l4.length, k4), (b5, l5.length, k5), (b6, l6.length, k6), (b7, l7.length, k7)]) := by show _ = _; rw [List.take_append_of_le_length (by omega)]; exact HS8.out
      have HDN : Hid ((hs ++ [(b, row.length, cap)]).drop 8 = hs.drop 8 ++ [(b, row.length, cap)]) := by show _ = _; rw [List.drop_append_of_le_length (by omega)]
      have hz8 := Z8.out
      have g1 : W1.cell? (ad.add i) = some (.slice A row.length c) := pw_cell_below hbel g0
      have q81 := blk_cell HI1.out.b1 8
      simp only [List.getElem?_toArray, List.getElem?_cons_zero, List.getElem?_cons_succ] at q81
      have HHI := HI
      clear hk hb hlt1 hI hbel g0 q8 HI
      have HCW : Hid (w.cell? (ad.add i) = some (.slice A row.length c)) := by have h := HCE.out; rwa [Int.toNat_natCast] at h
      go_wp2_with (first | ((with_reducible refine gate_builtin (b := .append) (xs := #[.tmp 87, .tmp 94]) rfl ?_); at_builtin; refine Kd.R_append hK (w0 := w) (W := W1) w.heap.size rfl (.tmp 87) (.tmp 94) 23 33 (.slice none 0 0) 24 rfl Try.underlying23 info33 rfl (by decide) (by omega) u5 hs (b, row.length, cap) [.slice (some ⟨b, 0, none⟩) row.length cap] tru (fun _ => False) rfl rfl (hK_M _ _ _ _ _ _) (fun _ hk => hk.elim) (fun _ _ => trivial) HI1.out.rm HI1.out.below HI1.out.below.size (bnd hls hlt Z8.out) ?_; intro v1 W2 ho hb hg hat; have HA1 := Lib.hid hat; have HI2 := Lib.hid (HI1.out.mine hg hb ho hat HGN.out); have q82 := blk_cell HI2.out.b1 8; simp only [List.getElem?_toArray, List.getElem?_cons_zero, List.getElem?_cons_succ] at q82; have g2 : W2.cell? (ad.add i) = some (.slice A row.length c) := pw_cell_below HI2.out.below HCW.out; clear ho hb hg hat q81 g1) | ((with_reducible refine gate_builtin (b := .append) (xs := #[.tmp 96, .tmp 102]) rfl ?_); at_builtin; refine Kd.R_append oK (w0 := w) (W := W2) w.heap.size rfl (.tmp 96) (.tmp 102) 23 33 (.slice none 0 0) 24 rfl Try.underlying23 info33 rfl (by decide) (by omega) u6 ws (A, row.length, c) [.slice A row.length c] tru (fun _ => False) rfl rfl (oK_M _ _ _ _ _ _) (fun _ hk => hk.elim) (fun _ _ => trivial) HI2.out.rw HI2.out.below HI2.out.below.size (bnd hlw hlt Z8.out) ?_; intro v2 W3 ho hb hg hat; have HI3 := Lib.hid (HI2.out.was hg hb ho hat); clear ho hb hg hat q82 g2))
      obtain ⟨g1, cp1, rfl, hg1b, hg1l, _⟩ := Kd.R_form HI3.out.rm (by simp)
      have e9 : (hs ++ [(b, row.length, cap)]).length = i + 9 := by rw [List.length_append, hls]; simp; omega
      rw [e9] at HI3
      rw [e9]
      have HC9 : Hid (W3.cell? ⟨g1, i + 8, none⟩ = some (.slice (some ⟨b, 0, none⟩) row.length cap)) := by
        have h := at_sc (Kd.R_reads' HI3.out.rm).2.2 (i + 8) (b, row.length, cap) (by rw [List.getElem?_append_right (by omega), hls, show i + 8 - (8 + i) = 0 by omega]; rfl)
        rwa [add_plain] at h
      have hwr : IntKind.i64.wrap ((i : Int) + 9 - 1) = (i : Int) + 8 := by rw [IntWalk.i64_in _ (by omega)]; omega
      have hn1 : (0 : Int) ≤ (i : Int) + 8 := by omega
      have hn2 : (i : Int) + 8 < (i : Int) + 9 := by omega
      have hnt : ((i : Int) + 8).toNat = i + 8 := by omega
      have hlns : (hs.drop 8).length = i := by rw [List.length_drop]; omega
      have HI4 := Lib.hid (HI3.out.later (below_drew (Below.refl _ W3)))
      refine start_ (n := 12) (S := fun w' => w'.cell? ⟨sb, 8, none⟩ = some un ∧ w'.cell? ⟨g1, i + 8, none⟩ = some (.slice (some ⟨b, 0, none⟩) row.length cap)) (ds := [10, 11]) #[false, false, false, false, false, false, false, false, false, false, false, false] (by kernel_rfl) rfl rfl ⟨blk_cell HI3.out.b3 8, HC9.out⟩ (fun hHeld => ?_)
      refine pure_ (i := 0) (N := some 104) (v := ?_) (a' := ?_) #[true, false, false, false, false, false, false, false, false, false, false, false] rfl rfl (by kernel_rfl) (fun _ _ _ h => h) (Or.inl ⟨by rfl, ?_⟩) ?_ ?_
      rotate_left
      · intro w'
        go_simp
        with_reducible rfl
      rotate_left
      · simp only [Act.put, List.setIfInBounds_toArray, List.set_cons_zero, List.set_cons_succ, i64_w, i32_w]
        rfl
      refine pure_ (i := 2) (N := some 106) (v := ?_) (a' := ?_) #[true, false, true, false, false, false, false, false, false, false, false, false] rfl rfl (by kernel_rfl) (fun _ _ _ h => h) (Or.inl ⟨by rfl, ?_⟩) ?_ ?_
      rotate_left
      · intro w'
        go_simp
        with_reducible rfl
      rotate_left
      · simp only [Act.put, List.setIfInBounds_toArray, List.set_cons_zero, List.set_cons_succ, i64_w, i32_w]
        rfl
      refine pure_ (i := 3) (N := some 107) (v := ?_) (a' := ?_) #[true, false, true, true, false, false, false, false, false, false, false, false] rfl rfl (by kernel_rfl) (fun _ _ _ h => h) (Or.inl ⟨by rfl, ?_⟩) ?_ ?_
      rotate_left
      · intro w'
        go_simp
        with_reducible rfl
      rotate_left
      · simp only [Act.put, List.setIfInBounds_toArray, List.set_cons_zero, List.set_cons_succ, i64_w, i32_w]
        rfl
      refine pure_ (i := 4) (N := some 108) (v := ?_) (a' := ?_) #[true, false, true, true, true, false, false, false, false, false, false, false] rfl rfl (by kernel_rfl) (fun _ _ _ h => h) (Or.inl ⟨by rfl, ?_⟩) ?_ ?_
      rotate_left
      · intro w'
        go_simp
        with_reducible rfl
      rotate_left
      · simp only [Act.put, List.setIfInBounds_toArray, List.set_cons_zero, List.set_cons_succ, i64_w, i32_w]
        rfl
      refine pure_ (i := 5) (N := some 109) (v := ?_) (a' := ?_) #[true, false, true, true, true, true, false, false, false, false, false, false] rfl rfl (by kernel_rfl) (fun _ _ _ h => h) (Or.inl ⟨by rfl, ?_⟩) ?_ ?_
      rotate_left
      · intro w'
        go_simp
        with_reducible rfl
      rotate_left
      · simp only [Act.put, List.setIfInBounds_toArray, List.set_cons_zero, List.set_cons_succ, i64_w, i32_w]
        rfl
      refine pure_ (i := 6) (N := some 110) (v := ?_) (a' := ?_) #[true, false, true, true, true, true, true, false, false, false, false, false] rfl rfl (by kernel_rfl) (fun _ _ _ h => h) (Or.inl ⟨by rfl, ?_⟩) ?_ ?_
      rotate_left
      · intro w'
        go_simp
        with_reducible rfl
      rotate_left
      · simp only [Act.put, List.setIfInBounds_toArray, List.set_cons_zero, List.set_cons_succ, i64_w, i32_w]
        rfl
      refine take_ (i := 1) (N := some 105) (v := ?_) (a' := ?_) #[true, true, true, true, true, true, true, false, false, false, false, false] rfl rfl (by kernel_rfl) (fun _ _ _ h => h) (Or.inl ⟨by rfl, ?_⟩) hHeld ?_ ?_
      rotate_left
      · rintro w' ⟨s0, s1⟩
        go_simp
        with_reducible rfl
      rotate_left
      · simp only [Act.put, List.setIfInBounds_toArray, List.set_cons_zero, List.set_cons_succ, i64_w, i32_w]
        rfl
      refine take_ (i := 7) (N := some 111) (v := ?_) (a' := ?_) #[true, true, true, true, true, true, true, true, false, false, false, false] rfl rfl (by kernel_rfl) (fun _ _ _ h => h) (Or.inl ⟨by rfl, ?_⟩) hHeld ?_ ?_
      rotate_left
      · rintro w' ⟨s0, s1⟩
        go_simp
        with_reducible rfl
      rotate_left
      · simp only [Act.put, List.setIfInBounds_toArray, List.set_cons_zero, List.set_cons_succ, i64_w, i32_w]
        rfl
      refine one_ (i := 8) (N := some 112) #[true, true, true, true, true, true, true, true, true, false, false, false] rfl rfl (by kernel_rfl) (by decide) (fun K hK => ?_)
      refine value_ (w1 := ?_) (v := ?_) (by rfl) rfl ?_ ?_
      rotate_left 2
      · go_simp
        constructor
        · rfl
        · rfl
      refine hK.out _ _ ⟨blk_cell (blk_alloc HI3.out.b3 _) 8, pw_cell_below (below_alloc (Below.refl _ W3) _) HC9.out⟩ (fun hHeld => ?_)
      clear hK K
      refine norm_ (a' := ?_) ?_ ?_
      rotate_left
      · show Act.put _ (some 112) _ = _
        simp only [Act.put, List.setIfInBounds_toArray, List.set_cons_zero, List.set_cons_succ, i64_w, i32_w]
        rfl
      refine one_ (i := 9) (N := some 113) #[true, true, true, true, true, true, true, true, true, true, false, false] rfl rfl (by kernel_rfl) (by decide) (fun K hK => ?_)
      refine Kd.R_append_step hdK (w0 := w) (W := W3.drew) w.heap.size (by rfl) (.tmp 105) (.tmp 112) 23 33 (.slice none 0 0) 24 rfl Try.underlying23 info33 rfl (by decide) (by omega) un (hs.drop 8) (b, row.length, cap) [.slice (some ⟨b, 0, none⟩) row.length cap] tru (fun _ => False) rfl rfl (hK_M _ _ _ _ _ _) (fun _ hk => hk.elim) (fun _ _ => trivial) HI4.out.rn HI4.out.below HI4.out.below.size (bnd0 hlns hlt Z8.out) ?_
      intro u1 W4 ho hb hg hat
      obtain ⟨g4, cp4, rfl, _, _, _⟩ := Kd.R_form ho (by simp)
      have HI5 := Lib.hid (HI4.out.nodes hg hb ho hat)
      have HE5 := Lib.hid (HI4.out.grownN hg)
      have q1 : W4.cell? ⟨sb, 8, none⟩ = some un := blk_cell HE5.out.2.2 8
      have q2 : W4.frozen? ⟨sb, 8, none⟩ = false := blk_frozen HE5.out.2.2 8
      have q3 : W4.cell? ⟨g1, i + 8, none⟩ = some (.slice (some ⟨b, 0, none⟩) row.length cap) := cell_grown hg HC9.out (fun e => HI4.out.amn g1 rfl e.symm)
      clear ho hb hg hat
      refine hK.out _ _ ⟨q1, q3⟩ (fun hHeld => ?_)
      clear hK K
      refine norm_ (a' := ?_) ?_ ?_
      rotate_left
      · show Act.put _ (some 113) _ = _
        simp only [Act.put, List.setIfInBounds_toArray, List.set_cons_zero, List.set_cons_succ, i64_w, i32_w]
        rfl
      refine pure_ (i := 10) (N := some 114) (v := ?_) (a' := ?_) #[true, true, true, true, true, true, true, true, true, true, true, false] rfl rfl (by kernel_rfl) (fun _ _ _ h => h) (Or.inl ⟨by rfl, ?_⟩) ?_ ?_
      rotate_left
      · intro w'
        go_simp
        with_reducible rfl
      rotate_left
      · simp only [Act.put, List.setIfInBounds_toArray, List.set_cons_zero, List.set_cons_succ, i64_w, i32_w]
        rfl
      refine last_ (i := 11) (N := none) #[true, true, true, true, true, true, true, true, true, true, true, true] rfl rfl (by kernel_rfl) (by decide) (fun K hK => ?_)
      refine skip_ (w1 := ?_) (by rfl) rfl ?_ ?_
      rotate_left
      · go_simp
        rfl
      refine hK.out _ _ ?_
      clear hK K
      refine done_ (by kernel_rfl) ?_
      go_wp2_with fail
      go_roundw
      case rel =>
        refine ⟨i + 1, .slice (some ⟨g4, 0, none⟩) (i + 1) cp4, hs ++ [(b, row.length, cap)], ws ++ [(A, row.length, c)], by go_num, by omega, H8N.out, ?_, HWN⟩
        rw [HDN.out]
        have e10 : (hs.drop 8 ++ [(b, row.length, cap)]).length = i + 1 := by rw [List.length_append, hlns]; rfl
        rw [e10] at HI5
        exact HI5
      case measure => simp [intOf]; omega
    · have hse : i = l8.length := by omega
      subst hse
      rw [List.take_length] at HI HS
      have hz8 := Z8.out
      have hNb : 8 + l8.length ≤ 9223372036854775806 := by omega
      generalize hN : 8 + l8.length = N at *
      obtain ⟨gm, cm, rfl, _, _, _⟩ := Kd.R_form HI.out.rm (by omega)
      obtain ⟨gw, cw, rfl, _, _, _⟩ := Kd.R_form HI.out.rw (by omega)
      obtain ⟨An, cn, rfl, hcn, hCn⟩ := Kd.R_reads HI.out.rn
      obtain ⟨x0, x1, x2, x3, x4, x5, x6, x7, x8, hrows, ⟨_, y0, t0⟩, ⟨_, y1, t1⟩, ⟨_, y2, t2⟩, ⟨_, y3, t3⟩, ⟨_, y4, t4⟩, ⟨_, y5, t5⟩, ⟨_, y6, t6⟩, ⟨_, y7, t7⟩, hnx, y8, t8⟩ := now_fields HI.out HS.out HS8.out
      have hrows := hrows rfl
      simp only [List.cons_append, List.nil_append, List.cons.injEq] at hrows
      obtain ⟨rfl, rfl, rfl, rfl, rfl, rfl, rfl, rfl, rfl⟩ := hrows
      have p0 : wr.cell? ⟨sb, 0, none⟩ = some (.slice (some ⟨b0, 0, none⟩) l0.length k0) := by skip; exact blk_cell HI.out.b3 0
      have p1 : wr.cell? ⟨sb, 1, none⟩ = some (.slice (some ⟨b1, 0, none⟩) l1.length k1) := by skip; exact blk_cell HI.out.b3 1
      have p2 : wr.cell? ⟨sb, 2, none⟩ = some (.slice (some ⟨b2, 0, none⟩) l2.length k2) := by skip; exact blk_cell HI.out.b3 2
      have p3 : wr.cell? ⟨sb, 3, none⟩ = some (.slice (some ⟨b3, 0, none⟩) l3.length k3) := by skip; exact blk_cell HI.out.b3 3
      have p4 : wr.cell? ⟨sb, 4, none⟩ = some (.slice (some ⟨b4, 0, none⟩) l4.length k4) := by skip; exact blk_cell HI.out.b3 4
      have p5 : wr.cell? ⟨sb, 5, none⟩ = some (.slice (some ⟨b5, 0, none⟩) l5.length k5) := by skip; exact blk_cell HI.out.b3 5
      have p6 : wr.cell? ⟨sb, 6, none⟩ = some (.slice (some ⟨b6, 0, none⟩) l6.length k6) := by skip; exact blk_cell HI.out.b3 6
      have p7 : wr.cell? ⟨sb, 7, none⟩ = some (.slice (some ⟨b7, 0, none⟩) l7.length k7) := by skip; exact blk_cell HI.out.b3 7
      have p8 : wr.cell? ⟨sb, 8, none⟩ = some (.slice An l8.length cn) := by rw [← hnx]; exact blk_cell HI.out.b3 8
      have ff0 : wr.cell? ⟨w.heap.size + 1, 0, none⟩ = some (.int .i64 f0) := blk_cell HI.out.b2 0
      have ff1 : wr.cell? ⟨w.heap.size + 1, 1, none⟩ = some (.int .i64 f1) := blk_cell HI.out.b2 1
      have ff2 : wr.cell? ⟨w.heap.size + 1, 2, none⟩ = some (.int .i64 f2) := blk_cell HI.out.b2 2
      have ff3 : wr.cell? ⟨w.heap.size + 1, 3, none⟩ = some (.int .i64 f3) := blk_cell HI.out.b2 3
      have T0 := Lib.hid t0
      have Y0 := Lib.hid y0
      have T1 := Lib.hid t1
      have Y1 := Lib.hid y1
      have T2 := Lib.hid t2
      have Y2 := Lib.hid y2
      have T3 := Lib.hid t3
      have Y3 := Lib.hid y3
      have T4 := Lib.hid t4
      have Y4 := Lib.hid y4
      have T5 := Lib.hid t5
      have Y5 := Lib.hid y5
      have T6 := Lib.hid t6
      have Y6 := Lib.hid y6
      have T7 := Lib.hid t7
      have Y7 := Lib.hid y7
      have T8 := Lib.hid t8
      have Y8 := Lib.hid y8
      have HNX := Lib.hid hnx
      clear hcn hCn hnx hi hlt t0 y0 t1 y1 t2 y2 t3 y3 t4 y4 t5 y5 t6 y6 t7 y7 t8 y8
      go_wp2_with fail
      refine (place_any (some ⟨b0, 0, none⟩) k0 l0 (some ⟨b1, 0, none⟩) k1 l1 (some ⟨b2, 0, none⟩) k2 l2 (some ⟨b3, 0, none⟩) k3 l3 (some ⟨b4, 0, none⟩) k4 l4 (some ⟨b5, 0, none⟩) k5 l5 (some ⟨b6, 0, none⟩) k6 l6 (some ⟨b7, 0, none⟩) k7 l7 An cn l8 f0 f1 f2 f3 wr T0.out Y0.out T1.out Y1.out T2.out Y2.out T3.out Y3.out T4.out Y4.out T5.out Y5.out T6.out Y6.out T7.out Y7.out T8.out Y8.out).mono ?_
      rintro e W1 ⟨rfl, hbel⟩
      have HI1 := Lib.hid (HI.out.later hbel)
      clear HI hbel p0 T0 Y0 p1 T1 Y1 p2 T2 Y2 p3 T3 Y3 p4 T4 Y4 p5 T5 Y5 p6 T6 Y6 p7 T7 Y7 p8 T8 Y8 ff0 ff1 ff2 ff3
      have p0 : W1.cell? ⟨w.heap.size, 0, none⟩ = some (.slice A0 l0.length c0) := blk_cell HI1.out.b1 0
      have p1 : W1.cell? ⟨w.heap.size, 1, none⟩ = some (.slice A1 l1.length c1) := blk_cell HI1.out.b1 1
      have p2 : W1.cell? ⟨w.heap.size, 2, none⟩ = some (.slice A2 l2.length c2) := blk_cell HI1.out.b1 2
      have p3 : W1.cell? ⟨w.heap.size, 3, none⟩ = some (.slice A3 l3.length c3) := blk_cell HI1.out.b1 3
      have p4 : W1.cell? ⟨w.heap.size, 4, none⟩ = some (.slice A4 l4.length c4) := blk_cell HI1.out.b1 4
      have p5 : W1.cell? ⟨w.heap.size, 5, none⟩ = some (.slice A5 l5.length c5) := blk_cell HI1.out.b1 5
      have p6 : W1.cell? ⟨w.heap.size, 6, none⟩ = some (.slice A6 l6.length c6) := blk_cell HI1.out.b1 6
      have p7 : W1.cell? ⟨w.heap.size, 7, none⟩ = some (.slice A7 l7.length c7) := blk_cell HI1.out.b1 7
      have p8 : W1.cell? ⟨w.heap.size, 8, none⟩ = some (.slice A8 l8.length c8) := blk_cell HI1.out.b1 8
      have ff0 : W1.cell? ⟨w.heap.size + 1, 0, none⟩ = some (.int .i64 f0) := blk_cell HI1.out.b2 0
      have ff1 : W1.cell? ⟨w.heap.size + 1, 1, none⟩ = some (.int .i64 f1) := blk_cell HI1.out.b2 1
      have ff2 : W1.cell? ⟨w.heap.size + 1, 2, none⟩ = some (.int .i64 f2) := blk_cell HI1.out.b2 2
      have ff3 : W1.cell? ⟨w.heap.size + 1, 3, none⟩ = some (.int .i64 f3) := blk_cell HI1.out.b2 3
      go_wp2_with fail
      refine (trellisref10_Place.calls A0 c0 l0 A1 c1 l1 A2 c2 l2 A3 c3 l3 A4 c4 l4 A5 c5 l5 A6 c6 l6 A7 c7 l7 A8 c8 l8 f0 f1 f2 f3 _ W1 (Kd.C_below G0.out HI1.out.below) D0.out (Kd.C_below G1.out HI1.out.below) D1.out (Kd.C_below G2.out HI1.out.below) D2.out (Kd.C_below G3.out HI1.out.below) D3.out (Kd.C_below G4.out HI1.out.below) D4.out (Kd.C_below G5.out HI1.out.below) D5.out (Kd.C_below G6.out HI1.out.below) D6.out (Kd.C_below G7.out HI1.out.below) D7.out (Kd.C_below G8.out HI1.out.below) D8.out (place_f l0 l1 l2 l3 l4 l5 l6 l7 l8 f0 f1 f2 f3)).mono ?_
      rintro e W2 ⟨rfl, hbel⟩
      have HI2 := Lib.hid (HI1.out.later hbel)
      clear HI1 hbel p0 p1 p2 p3 p4 p5 p6 p7 p8 ff0 ff1 ff2 ff3
      generalize placeS l0 l1 l2 l3 l4 l5 l6 l7 l8 f1 f2 f3 = pl at *
      go_wp2_with fail
      rw [hls, hlw] at HI2
      go_loopw [10] (fun v w' => ∃ i : Nat, v = .int .i64 i ∧ i ≤ N ∧ Hid (PI w #[Value.slice A0 l0.length c0, Value.slice A1 l1.length c1, Value.slice A2 l2.length c2, Value.slice A3 l3.length c3, Value.slice A4 l4.length c4, Value.slice A5 l5.length c5, Value.slice A6 l6.length c6, Value.slice A7 l7.length c7, Value.slice A8 l8.length c8] #[Value.int .i64 f0, .int .i64 f1, .int .i64 f2, .int .i64 f3] sb (Value.slice (some ⟨b0, 0, none⟩) l0.length k0) (Value.slice (some ⟨b1, 0, none⟩) l1.length k1) (Value.slice (some ⟨b2, 0, none⟩) l2.length k2) (Value.slice (some ⟨b3, 0, none⟩) l3.length k3) (Value.slice (some ⟨b4, 0, none⟩) l4.length k4) (Value.slice (some ⟨b5, 0, none⟩) l5.length k5) (Value.slice (some ⟨b6, 0, none⟩) l6.length k6) (Value.slice (some ⟨b7, 0, none⟩) l7.length k7) (.slice (some ⟨gm, 0, none⟩) N cm) (.slice (some ⟨gw, 0, none⟩) N cw) (.slice An (hs.drop 8).length cn) hs ws (hs.drop 8) ([l0, l1, l2, l3, l4, l5, l6, l7] ++ l8) i w')) (fun v _ => N - (intOf v).toNat)
      case atStart => exact ⟨0, rfl, Nat.zero_le _, HI2⟩
      case round =>
        try clear HI2
        obtain ⟨i, rfl, hi, HI⟩ := hrel
        by_cases hlt : i < N
        · obtain ⟨⟨b, n, cap⟩, hhd⟩ : ∃ hd, hs[i]? = some hd := ⟨_, List.getElem?_eq_getElem (by omega)⟩
          obtain ⟨⟨A, m, c⟩, hwd⟩ : ∃ hd, ws[i]? = some hd := ⟨_, List.getElem?_eq_getElem (by omega)⟩
          obtain ⟨row, hrw⟩ : ∃ row, ([l0, l1, l2, l3, l4, l5, l6, l7] ++ l8)[i]? = some row := ⟨_, List.getElem?_eq_getElem (by have := HS.out.len; omega)⟩
          obtain ⟨e1, e2, _, _, e5, _⟩ := HI.out.gs.inner i _ row hhd hrw
          have e5 := e5 (Nat.le_refl _)
          obtain ⟨f1', f2', f3', f4'⟩ := HS.out.at_ i _ row hwd hrw
          obtain rfl : n = row.length := e1
          obtain rfl : m = row.length := f1'
          have HHD := Lib.hid hhd
          have HRW := Lib.hid hrw
          have HE2 : Hid (row.length + 2 ≤ cap) := e2
          have HE5 : Hid (∀ n, IB (wr.drewN n) b (row ++ marks)) := fun n => e5.keep rfl
          have HF3 : Hid (∀ n, kI.C (wr.drewN n) A row.length row) := fun n => Kd.C_below (Kd.C_below f3' HI.out.below) (pw_below_drewN (Below.refl _ _) n)
          have HF4 := Lib.hid f4'
          have cc1 : wr.cell? ⟨gm, i, none⟩ = some (.slice (some ⟨b, 0, none⟩) row.length cap) := at_sc' HI.out.rm i _ hhd
          have cc2 : wr.cell? ⟨gw, i, none⟩ = some (.slice A row.length c) := at_sc' HI.out.rw i _ hwd
          have j1 : (0 : Int) ≤ (i : Int) := Int.natCast_nonneg _
          have j2 : (i : Int) < (N : Int) := by omega
          have hrm : row.length ≤ 9223372036854775806 := by omega
          clear e2 e5 f2' f3' f4' hhd hwd hrw
          go_wp2_with fail
          go_quiet ((go_at_call 18; exact Calls.quiet_of (sparedInts_any b cap row A c _ (HE5.out _) HE2.out (HF3.out _) HF4.out)))
          have HI3 : Hid (PI w #[Value.slice A0 l0.length c0, Value.slice A1 l1.length c1, Value.slice A2 l2.length c2, Value.slice A3 l3.length c3, Value.slice A4 l4.length c4, Value.slice A5 l5.length c5, Value.slice A6 l6.length c6, Value.slice A7 l7.length c7, Value.slice A8 l8.length c8] #[Value.int .i64 f0, .int .i64 f1, .int .i64 f2, .int .i64 f3] sb (Value.slice (some ⟨b0, 0, none⟩) l0.length k0) (Value.slice (some ⟨b1, 0, none⟩) l1.length k1) (Value.slice (some ⟨b2, 0, none⟩) l2.length k2) (Value.slice (some ⟨b3, 0, none⟩) l3.length k3) (Value.slice (some ⟨b4, 0, none⟩) l4.length k4) (Value.slice (some ⟨b5, 0, none⟩) l5.length k5) (Value.slice (some ⟨b6, 0, none⟩) l6.length k6) (Value.slice (some ⟨b7, 0, none⟩) l7.length k7) (.slice (some ⟨gm, 0, none⟩) N cm) (.slice (some ⟨gw, 0, none⟩) N cw) (.slice An (hs.drop 8).length cn) hs ws (hs.drop 8) ([l0, l1, l2, l3, l4, l5, l6, l7] ++ l8) (i + 1) (wr.drewN nq)) := (HI.out.later (pw_below_drewN (Below.refl _ wr) nq)).next
          clear HI HE5 HF3 cc1 cc2
          go_wp2_with fail
          go_loopw [11] (fun v w' => ∃ k : Nat, v = .int .i64 k ∧ k ≤ row.length ∧ Hid (PI w #[Value.slice A0 l0.length c0, Value.slice A1 l1.length c1, Value.slice A2 l2.length c2, Value.slice A3 l3.length c3, Value.slice A4 l4.length c4, Value.slice A5 l5.length c5, Value.slice A6 l6.length c6, Value.slice A7 l7.length c7, Value.slice A8 l8.length c8] #[Value.int .i64 f0, .int .i64 f1, .int .i64 f2, .int .i64 f3] sb (Value.slice (some ⟨b0, 0, none⟩) l0.length k0) (Value.slice (some ⟨b1, 0, none⟩) l1.length k1) (Value.slice (some ⟨b2, 0, none⟩) l2.length k2) (Value.slice (some ⟨b3, 0, none⟩) l3.length k3) (Value.slice (some ⟨b4, 0, none⟩) l4.length k4) (Value.slice (some ⟨b5, 0, none⟩) l5.length k5) (Value.slice (some ⟨b6, 0, none⟩) l6.length k6) (Value.slice (some ⟨b7, 0, none⟩) l7.length k7) (.slice (some ⟨gm, 0, none⟩) N cm) (.slice (some ⟨gw, 0, none⟩) N cw) (.slice An (hs.drop 8).length cn) hs ws (hs.drop 8) ([l0, l1, l2, l3, l4, l5, l6, l7] ++ l8) (i + 1) w')) (fun v _ => row.length - (intOf v).toNat)
          case atStart => exact ⟨0, rfl, Nat.zero_le _, HI3⟩
          case round =>
            try clear HI3
            obtain ⟨k, rfl, hk, HI⟩ := hrel
            have cc1 : wr.cell? ⟨gm, i, none⟩ = some (.slice (some ⟨b, 0, none⟩) row.length cap) := at_sc' HI.out.rm i _ HHD.out
            by_cases hkl : k < row.length
            · obtain ⟨_, _, _, _, _, xs, hxl, hI⟩ := HI.out.gs.inner i _ row HHD.out HRW.out
              obtain ⟨x, hx⟩ : ∃ x, xs[k]? = some x := ⟨_, List.getElem?_eq_getElem (by omega)⟩
              have cc3 : wr.cell? ⟨b, k, none⟩ = some (.int .i64 x) := hI.cell k x hx
              have cc4 : wr.frozen? ⟨b, k, none⟩ = false := by obtain ⟨cur, hb, _⟩ := hI; exact blk_frozen hb k
              obtain ⟨y, hy⟩ : ∃ y, IntKind.i64.wrap (x + 7) = y := ⟨_, rfl⟩
              have j3 : (0 : Int) ≤ (k : Int) := Int.natCast_nonneg _
              have j4 : (k : Int) < (row.length : Int) := by omega
              clear hxl hI hx
              go_wp2_with fail
              go_still_tail 13, (by kernel_rfl)
              go_wp2_with fail
              go_roundw
              case rel => exact ⟨k + 1, by go_num, by omega, Lib.hid ((HI.out.later (pw_below_drewN (Below.refl _ wr) _)).put HHD.out HRW.out k y)⟩
              case measure => simp [intOf]; omega
            · have hke : k = row.length := by omega
              subst hke
              go_wp2_with fail
              go_roundw
              case rel => exact ⟨i + 1, by go_num, by omega, HI⟩
              case measure => simp [intOf]; omega
        · have hie : i = N := by omega
          subst hie
          obtain ⟨x0, x1, x2, x3, x4, x5, x6, x7, x8, _, ⟨a0, y0, t0⟩, ⟨a1, y1, t1⟩, ⟨a2, y2, t2⟩, ⟨a3, y3, t3⟩, ⟨a4, y4, t4⟩, ⟨a5, y5, t5⟩, ⟨a6, y6, t6⟩, ⟨a7, y7, t7⟩, hnx, y8, t8⟩ := now_fields HI.out HS.out HS8.out
          have p0 : wr.cell? ⟨sb, 0, none⟩ = some (.slice (some ⟨b0, 0, none⟩) x0.length k0) := by rw [← a0]; exact blk_cell HI.out.b3 0
          have p1 : wr.cell? ⟨sb, 1, none⟩ = some (.slice (some ⟨b1, 0, none⟩) x1.length k1) := by rw [← a1]; exact blk_cell HI.out.b3 1
          have p2 : wr.cell? ⟨sb, 2, none⟩ = some (.slice (some ⟨b2, 0, none⟩) x2.length k2) := by rw [← a2]; exact blk_cell HI.out.b3 2
          have p3 : wr.cell? ⟨sb, 3, none⟩ = some (.slice (some ⟨b3, 0, none⟩) x3.length k3) := by rw [← a3]; exact blk_cell HI.out.b3 3
          have p4 : wr.cell? ⟨sb, 4, none⟩ = some (.slice (some ⟨b4, 0, none⟩) x4.length k4) := by rw [← a4]; exact blk_cell HI.out.b3 4
          have p5 : wr.cell? ⟨sb, 5, none⟩ = some (.slice (some ⟨b5, 0, none⟩) x5.length k5) := by rw [← a5]; exact blk_cell HI.out.b3 5
          have p6 : wr.cell? ⟨sb, 6, none⟩ = some (.slice (some ⟨b6, 0, none⟩) x6.length k6) := by rw [← a6]; exact blk_cell HI.out.b3 6
          have p7 : wr.cell? ⟨sb, 7, none⟩ = some (.slice (some ⟨b7, 0, none⟩) x7.length k7) := by rw [← a7]; exact blk_cell HI.out.b3 7
          have p8 : wr.cell? ⟨sb, 8, none⟩ = some (.slice An x8.length cn) := by rw [← hnx]; exact blk_cell HI.out.b3 8
          have ff0 : wr.cell? ⟨w.heap.size + 1, 0, none⟩ = some (.int .i64 f0) := blk_cell HI.out.b2 0
          have ff1 : wr.cell? ⟨w.heap.size + 1, 1, none⟩ = some (.int .i64 f1) := blk_cell HI.out.b2 1
          have ff2 : wr.cell? ⟨w.heap.size + 1, 2, none⟩ = some (.int .i64 f2) := blk_cell HI.out.b2 2
          have ff3 : wr.cell? ⟨w.heap.size + 1, 3, none⟩ = some (.int .i64 f3) := blk_cell HI.out.b2 3
          have T0 := Lib.hid t0
          have Y0 := Lib.hid y0
          have T1 := Lib.hid t1
          have Y1 := Lib.hid y1
          have T2 := Lib.hid t2
          have Y2 := Lib.hid y2
          have T3 := Lib.hid t3
          have Y3 := Lib.hid y3
          have T4 := Lib.hid t4
          have Y4 := Lib.hid y4
          have T5 := Lib.hid t5
          have Y5 := Lib.hid y5
          have T6 := Lib.hid t6
          have Y6 := Lib.hid y6
          have T7 := Lib.hid t7
          have Y7 := Lib.hid y7
          have T8 := Lib.hid t8
          have Y8 := Lib.hid y8
          have HNX := Lib.hid hnx
          have E0 := Lib.hid a0
          have E1 := Lib.hid a1
          have E2 := Lib.hid a2
          have E3 := Lib.hid a3
          have E4 := Lib.hid a4
          have E5 := Lib.hid a5
          have E6 := Lib.hid a6
          have E7 := Lib.hid a7
          clear hnx hi hlt t0 y0 t1 y1 t2 y2 t3 y3 t4 y4 t5 y5 t6 y6 t7 y7 t8 y8 a0 a1 a2 a3 a4 a5 a6 a7
          go_wp2_with fail
          refine (trellisref10_Place.calls (some ⟨b0, 0, none⟩) k0 x0 (some ⟨b1, 0, none⟩) k1 x1 (some ⟨b2, 0, none⟩) k2 x2 (some ⟨b3, 0, none⟩) k3 x3 (some ⟨b4, 0, none⟩) k4 x4 (some ⟨b5, 0, none⟩) k5 x5 (some ⟨b6, 0, none⟩) k6 x6 (some ⟨b7, 0, none⟩) k7 x7 An cn x8 f0 f1 f2 f3 _ wr T0.out Y0.out T1.out Y1.out T2.out Y2.out T3.out Y3.out T4.out Y4.out T5.out Y5.out T6.out Y6.out T7.out Y7.out T8.out Y8.out (place_f x0 x1 x2 x3 x4 x5 x6 x7 x8 f0 f1 f2 f3)).mono ?_
          rintro e W3 ⟨rfl, hbel⟩
          have HI3 := Lib.hid (HI.out.later hbel)
          have TT0 := Lib.hid (Kd.C_below T0.out hbel)
          have TT1 := Lib.hid (Kd.C_below T1.out hbel)
          have TT2 := Lib.hid (Kd.C_below T2.out hbel)
          have TT3 := Lib.hid (Kd.C_below T3.out hbel)
          have TT4 := Lib.hid (Kd.C_below T4.out hbel)
          have TT5 := Lib.hid (Kd.C_below T5.out hbel)
          have TT6 := Lib.hid (Kd.C_below T6.out hbel)
          have TT7 := Lib.hid (Kd.C_below T7.out hbel)
          have TT8 := Lib.hid (Kd.C_below T8.out hbel)
          have hnx := HNX.out
          have a0 := E0.out
          have a1 := E1.out
          have a2 := E2.out
          have a3 := E3.out
          have a4 := E4.out
          have a5 := E5.out
          have a6 := E6.out
          have a7 := E7.out
          clear HI hbel p0 T0 p1 T1 p2 T2 p3 T3 p4 T4 p5 T5 p6 T6 p7 T7 p8 T8 ff0 ff1 ff2 ff3
          have p0 : W3.cell? ⟨sb, 0, none⟩ = some (.slice (some ⟨b0, 0, none⟩) x0.length k0) := by rw [← a0]; exact blk_cell HI3.out.b3 0
          have p1 : W3.cell? ⟨sb, 1, none⟩ = some (.slice (some ⟨b1, 0, none⟩) x1.length k1) := by rw [← a1]; exact blk_cell HI3.out.b3 1
          have p2 : W3.cell? ⟨sb, 2, none⟩ = some (.slice (some ⟨b2, 0, none⟩) x2.length k2) := by rw [← a2]; exact blk_cell HI3.out.b3 2
          have p3 : W3.cell? ⟨sb, 3, none⟩ = some (.slice (some ⟨b3, 0, none⟩) x3.length k3) := by rw [← a3]; exact blk_cell HI3.out.b3 3
          have p4 : W3.cell? ⟨sb, 4, none⟩ = some (.slice (some ⟨b4, 0, none⟩) x4.length k4) := by rw [← a4]; exact blk_cell HI3.out.b3 4
          have p5 : W3.cell? ⟨sb, 5, none⟩ = some (.slice (some ⟨b5, 0, none⟩) x5.length k5) := by rw [← a5]; exact blk_cell HI3.out.b3 5
          have p6 : W3.cell? ⟨sb, 6, none⟩ = some (.slice (some ⟨b6, 0, none⟩) x6.length k6) := by rw [← a6]; exact blk_cell HI3.out.b3 6
          have p7 : W3.cell? ⟨sb, 7, none⟩ = some (.slice (some ⟨b7, 0, none⟩) x7.length k7) := by rw [← a7]; exact blk_cell HI3.out.b3 7
          have p8 : W3.cell? ⟨sb, 8, none⟩ = some (.slice An x8.length cn) := by rw [← hnx]; exact blk_cell HI3.out.b3 8
          have ff0 : W3.cell? ⟨w.heap.size + 1, 0, none⟩ = some (.int .i64 f0) := blk_cell HI3.out.b2 0
          have ff1 : W3.cell? ⟨w.heap.size + 1, 1, none⟩ = some (.int .i64 f1) := blk_cell HI3.out.b2 1
          have ff2 : W3.cell? ⟨w.heap.size + 1, 2, none⟩ = some (.int .i64 f2) := blk_cell HI3.out.b2 2
          have ff3 : W3.cell? ⟨w.heap.size + 1, 3, none⟩ = some (.int .i64 f3) := blk_cell HI3.out.b2 3
          clear hnx a0 a1 a2 a3 a4 a5 a6 a7
          go_wp2_with fail
          refine (place_any (some ⟨b0, 0, none⟩) k0 x0 (some ⟨b1, 0, none⟩) k1 x1 (some ⟨b2, 0, none⟩) k2 x2 (some ⟨b3, 0, none⟩) k3 x3 (some ⟨b4, 0, none⟩) k4 x4 (some ⟨b5, 0, none⟩) k5 x5 (some ⟨b6, 0, none⟩) k6 x6 (some ⟨b7, 0, none⟩) k7 x7 An cn x8 f0 f1 f2 f3 W3 TT0.out Y0.out TT1.out Y1.out TT2.out Y2.out TT3.out Y3.out TT4.out Y4.out TT5.out Y5.out TT6.out Y6.out TT7.out Y7.out TT8.out Y8.out).mono ?_
          rintro e W4 ⟨rfl, hbel⟩
          have HBF := Lib.hid (below_step HI3.out.below hbel)
          clear HI3 hbel p0 p1 p2 p3 p4 p5 p6 p7 p8 ff0 ff1 ff2 ff3
          generalize placeS x0 x1 x2 x3 x4 x5 x6 x7 x8 f1 f2 f3 = pl2 at *
          go_wp2_with fail
          go_ret
          exact ⟨rfl, HBF.out⟩
end Go.Proofs.Ytcijanmckhlpiaa
