import Derived.Test.YtcijanmckhlpiaaPlaceWalk
namespace Go.Proofs.Ytcijanmckhlpiaa
open Go.RowKit Go.Proofs.YtcijanmckhlpiaaW.PrintWords Go.Proofs.YtcijanmckhlpiaaW.PrintLast Go.Proofs.YtcijanmckhlpiaaW.PrintMore Go.Proofs.Ytcijanmckhlpiaa.PGrammarPlaces
set_option linter.unusedVariables false
set_option linter.unusedSimpArgs false

/-- Block b (of ints) begins with these. -/
def IB (W : World) (b : Nat) (xs : List Int) : Prop := ∃ cur : Array Value, W.heap[b]? = some (Obj.cells cur 3 (0, 0)) ∧ ∀ (j : Nat) (x : Int), xs[j]? = some x → cur[j]? = some (Value.int .i64 x)
theorem IB_of_R {w : World} {base : Nat} {ok : Nat → Prop} {g n c : Nat} {xs : List Int} (h : kI.R 3 w base ok (.slice (some ⟨g, 0, none⟩) n c) xs) : IB w g xs ∧ base ≤ g ∧ g < w.heap.size ∧ n = xs.length ∧ n ≤ c := by
  have hr := Kd.R_reads' h
  obtain ⟨h0, inner, ho, hr2⟩ := h
  rcases ho.2 with ⟨he, _⟩ | ⟨g', cap, cur, he, hb, hh, h3, h4, h5, h6⟩
  · injection he with he; cases he
  · injection he with he he2 he3
    injection he with he
    injection he with he
    subst he
    refine ⟨⟨cur, hh, fun j x hx => ?_⟩, hb, blk_lt hh, hr.1, hr.2.1⟩
    have h7 : (inner.drop (j * 1)).take 1 = [Value.int .i64 x] := hr2.2 j x hx
    have hi : inner[j]? = some (Value.int .i64 x) := by
      have h8 := congrArg (fun l => l[0]?) h7
      simpa using h8
    rw [← h6, List.getElem?_take] at hi
    split at hi
    · simpa using hi
    · cases hi
theorem IB.C {W : World} {b : Nat} {xs : List Int} (h : IB W b xs) (n : Nat) (hn : n ≤ xs.length) (hb : n ≤ 9223372036854775807) : kI.C W (some ⟨b, 0, none⟩) n (xs.take n) := by
  obtain ⟨cur, h1, h2⟩ := h
  refine ⟨by rw [List.length_take]; omega, hb, fun hp => ⟨⟨b, 0, none⟩, rfl, fun j p hj => ?_⟩⟩
  rw [List.getElem?_take] at hj
  split at hj
  · refine ⟨[.int .i64 p], rfl, rfl, fun i u hu => ?_⟩
    rw [show kI.sz = 1 from rfl, add_plain]
    refine (blk_cell h1 _).trans ?_
    match i with
    | 0 => rw [Nat.add_zero, Nat.mul_one, h2 j p hj]; exact hu
    | i + 1 => simp at hu
  · cases hj
theorem IB.below {W W1 : World} {b : Nat} {xs : List Int} (h : IB W b xs) (hb : Below W.heap.size W W1) : IB W1 b xs := by
  obtain ⟨cur, h1, h2⟩ := h
  exact ⟨cur, blk_below h1 hb, h2⟩
theorem IB.cell {W : World} {b : Nat} {xs : List Int} (h : IB W b xs) (j : Nat) (x : Int) (hx : xs[j]? = some x) : W.cell? ⟨b, j, none⟩ = some (.int .i64 x) := by
  obtain ⟨cur, h1, h2⟩ := h
  exact (blk_cell h1 j).trans (h2 j x hx)
def marks : List Int := [-77, -77]
theorem lit_marks (W : World) : kI.C (W.alloc (.cells #[.int .i64 (-77), .int .i64 (-77)] 3)) (some ⟨W.heap.size, 0, none⟩) 2 marks :=
  IB.C (xs := marks) ⟨#[.int .i64 (-77), .int .i64 (-77)], blk_new _ _, fun j x hx => by
    match j with
    | 0 => simp [marks] at hx; subst hx; rfl
    | 1 => simp [marks] at hx; subst hx; rfl
    | j + 2 => simp [marks] at hx⟩ 2 (Nat.le_refl _) (by decide)
theorem cut_room {P : Program} (t e : TypeId) (kh : IntKind) {i : TypeInfo} (ht : P.underlying t = some (.slice e)) (hi : P.info? e = some i) (A : Option Addr) (n c : Nat) (j : Int) (h0 : 0 ≤ j) (hm : j ≤ c) :
    ∀ W : World, (Instr.slice t (.slice A n c) none (some (.int kh j)) none).run P W = .ok (.slice A j.toNat c) W := by
  intro W
  have hel : P.elem t = e := by simp [Program.elem, ht]
  have hu : P.underlying t = some (.slice (P.elem t)) := by rw [hel]; exact ht
  have ha : (A.map fun x => x.add 0) = A := by cases A <;> simp [Addr.add]
  rw [run_slice_h W t A n c hu kh j h0 (by omega), hel]
  simp [sizeOf, typeInfo, hi, sliced, ha, Result.andThen]

set_option maxRecDepth 100000 in
set_option maxHeartbeats 4000000 in
theorem roomyInts_any (A : Option Addr) (c : Nat) (l : List Int) (w : World) (hr : kI.C w A l.length l) (hz : (l.length + 2) * 8 ≤ 140737488355328) :
    Calls Try.prog 15 #[.slice A l.length c] w fun e w' => ∃ b cap : Nat, e = .returned (.slice (some ⟨b, 0, none⟩) l.length cap) ∧ l.length + 2 ≤ cap ∧ w.heap.size ≤ b ∧ b < w'.heap.size ∧ IB w' b (l ++ marks) ∧ Below w.heap.size w w' := by
  have HR := Lib.hid hr
  clear hr
  have hm : l.length ≤ 9223372036854775807 := by omega
  go_enter Try.func15, Try.ntmps15
  have tok : True := trivial
  go_wp2_with (first | ((with_reducible refine gate_builtin (b := .append) (xs := #[.tmp 4, .tmp 5]) rfl ?_); at_builtin; refine Kd.R_append_rows kI (w0 := w) w.heap.size rfl (.tmp 4) (.tmp 5) 33 3 (.int .i64 0) 8 rfl Try.underlying33 info3 rfl (by decide) (by omega) (.slice none 0 0) ([] : List Int) l _ _ _ (fun _ => True) (fun _ => False) rfl rfl (Kd.R_nil _ _ _ _ _) HR.out (fun _ _ h => h) (fun _ h => h.elim) (fun _ _ => trivial) (Below.refl _ _) (Nat.le_refl _) (by simp; omega) ?_; intro v1 w1 ho1 hb1 hg1 hat1; have HO1 := Lib.hid ho1; have HB1 := Lib.hid hb1; clear ho1 hb1 hg1 hat1) | ((with_reducible refine gate_builtin (b := .append) (xs := #[.tmp 7, .tmp 8]) rfl ?_); at_builtin; refine Kd.R_append_rows kI (w0 := w) w.heap.size rfl (.tmp 7) (.tmp 8) 33 3 (.int .i64 0) 8 rfl Try.underlying33 info3 rfl (by decide) (by omega) v1 ([] ++ l) marks (some ⟨w1.heap.size, 0, none⟩) 2 2 (fun _ => True) (fun _ => False) rfl (by simp [Act.eval]) (Kd.R_alloc HO1.out _) (lit_marks w1) (fun _ _ h => h) (fun _ h => h.elim) (fun _ _ => trivial) (below_alloc HB1.out _) (below_alloc HB1.out _).size (by simpa using hz) ?_; intro v2 w2 ho2 hb2 hg2 hat2; have HO2 := Lib.hid ho2; have HB2 := Lib.hid hb2; clear ho2 hb2 hg2 hat2))
  obtain ⟨b, cap, rfl, hbb, hbl, _⟩ := Kd.R_form HO2.out (by simp [marks])
  have e2 : ([] ++ l ++ marks).length = l.length + 2 := by simp [marks]
  obtain ⟨hIB, _, _, _, hcap⟩ := IB_of_R HO2.out
  rw [e2] at hcap
  rw [List.nil_append] at hIB
  have HIB := Lib.hid hIB
  clear hIB
  rw [e2]
  obtain ⟨i0, hi0, _, _, _⟩ := info_parts info3
  have hcut := cut_to (P := Try.prog) 33 3 .i64 Try.underlying33 hi0 (some ⟨b, 0, none⟩) (l.length + 2) cap (l.length : Int) (by omega) (by omega) hcap
  rw [Int.toNat_natCast] at hcut
  go_wp2_with fail
  go_ret
  exact ⟨b, cap, rfl, hcap, hbb, hbl, HIB.out, HB2.out⟩

set_option maxRecDepth 100000 in
set_option maxHeartbeats 4000000 in
theorem sparedInts_any (b cap : Nat) (l : List Int) (A : Option Addr) (c : Nat) (w : World) (hI : IB w b (l ++ marks)) (hcap : l.length + 2 ≤ cap) (hr : kI.C w A l.length l) (hz : (l.length + 2) * 8 ≤ 140737488355328) :
    Calls Try.prog 18 #[.slice (some ⟨b, 0, none⟩) l.length cap, .slice A l.length c] w fun e w' => e = .returned (.bool true) ∧ ∃ n, w' = w.drewN n := by
  have HI := Lib.hid hI
  have HR := Lib.hid hr
  have hm : l.length + 2 ≤ 9223372036854775807 := by omega
  clear hI hr
  go_enter Try.func18, Try.ntmps18
  go_wp2_with fail
  go_loopw [5] (fun v w' => ∃ s : Nat, v = .int .i64 s ∧ s ≤ l.length ∧ Hid (∃ n, w' = w.drewN n)) (fun v _ => l.length - (intOf v).toNat)
  case atStart => exact ⟨0, rfl, Nat.zero_le _, 0, rfl⟩
  case round =>
    obtain ⟨s, rfl, hs, n, rfl⟩ := hrel
    by_cases hlt : s < l.length
    · obtain ⟨ad, rfl, g1⟩ := Kd.at_int HR.out s (by omega) (by omega)
      have hx : rd l (s : Int) = l[s] := by unfold rd; rw [Int.toNat_natCast, List.getD_eq_getElem?_getD, List.getElem?_eq_getElem hlt]; rfl
      have g2 : w.cell? ⟨b, s, none⟩ = some (.int .i64 l[s]) := HI.out.cell s _ (by rw [List.getElem?_append_left hlt, List.getElem?_eq_getElem hlt])
      rw [hx, Int.toNat_natCast] at g1
      generalize l[s] = x at *
      clear hx
      have i1 : (0 : Int) ≤ (s : Int) := Int.natCast_nonneg _
      have i2 : (s : Int) < (l.length : Int) := by omega
      go_wp2_with fail
      go_quiet (fail)
      go_wp2_with fail
      go_roundw
      case rel => exact ⟨s + 1, by go_num, by omega, _, rfl⟩
      case measure => simp [intOf]; omega
    · have g1 : w.cell? ⟨b, l.length, none⟩ = some (.int .i64 (-77)) := HI.out.cell l.length _ (by rw [List.getElem?_append_right (Nat.le_refl _), Nat.sub_self]; rfl)
      have g2 : w.cell? ⟨b, l.length + 1, none⟩ = some (.int .i64 (-77)) := HI.out.cell (l.length + 1) _ (by rw [List.getElem?_append_right (by omega), show l.length + 1 - l.length = 1 by omega]; rfl)
      obtain ⟨i0, hi0, _, _, _⟩ := info_parts info3
      have hcut := cut_room (P := Try.prog) 33 3 .i64 Try.underlying33 hi0 (some ⟨b, 0, none⟩) l.length cap (l.length + 2 : Int) (by omega) (by omega)
      rw [show ((l.length : Int) + 2).toNat = l.length + 2 by omega] at hcut
      go_wp2_with fail
      go_ret
      exact ⟨rfl, n, rfl⟩
end Go.Proofs.Ytcijanmckhlpiaa
