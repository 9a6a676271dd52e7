import Derived.Test.YtcijanmckhlpiaaPaintLine
namespace Go.Proofs.Ytcijanmckhlpiaa
open Go.RowKit Go.Proofs.YtcijanmckhlpiaaW.PrintWords Go.Proofs.YtcijanmckhlpiaaW.PrintLast Go.Proofs.YtcijanmckhlpiaaW.PrintMore Go.Proofs.Ytcijanmckhlpiaa.PPaintClasses
set_option linter.unusedVariables false
set_option linter.unusedSimpArgs false
namespace Paint
theorem pathS_mem (t : List S76) (p : Int) : ∀ d i e, ∀ x ∈ pathS t p d i e, 0 ≤ x ∧ x < (t.length : Int) := by
  intro d
  induction d with
  | zero => intro i e x hx; cases hx
  | succ d ih =>
    intro i e x hx
    unfold pathS at hx
    split at hx
    · rename_i h
      split at hx
      · rcases List.mem_cons.1 hx with rfl | hx
        · omega
        · exact ih _ _ x hx
      · exact ih _ _ x hx
    · cases hx
theorem pathAll_mem (t : List S76) (p : Int) : ∀ x ∈ pathAll t p, 0 ≤ x ∧ x < (t.length : Int) := by
  intro x hx
  unfold pathAll at hx
  split at hx
  · exact pathS_mem t p _ _ _ x hx
  · cases hx
theorem pathAll_len (t : List S76) (p : Int) : (pathAll t p).length ≤ t.length := by
  unfold pathAll
  split
  · have := pathS_len t p t.length 0 t.length; omega
  · exact Nat.zero_le _
/-- The class by the innermost of these nodes that a line names. -/
def clsS (l : List PD) (t : List S76) : List Int → ByteArray
  | [] => ⟨#[]⟩
  | i :: r => match lineS (rd_T76 t i).f0 l with
    | some c => c
    | none => clsS l t r
/-- The class of a byte. -/
def classAll (l : List PD) (t : List S76) (p : Int) : ByteArray := if p < 0 then ⟨#[]⟩ else clsS l t (pathAll t p).reverse
theorem clsS_step (l : List PD) (t : List S76) (q : List Int) (j : Nat) (h : j < q.length) : clsS l t (q.take (j + 1)).reverse = match lineS (rd_T76 t q[j]).f0 l with | some c => c | none => clsS l t (q.take j).reverse := by
  rw [List.take_succ_eq_append_getElem h, List.reverse_append]; rfl
set_option maxRecDepth 100000 in
set_option maxHeartbeats 4000000 in
theorem refClass_any (A : Option Addr) (c : Nat) (l : List PD) (B : Option Addr) (d : Nat) (t : List S76) (a : Int) (w : World) (hr : k99.C w A l.length l) (hz : l.length ≤ 1048576) (hrt : k76.C w B t.length t) (hd : t.length ≤ d) (hzt : t.length ≤ 1048576) :
    Calls Try.prog 23 #[LG (.slice A l.length c), .slice B t.length d, .int .i64 a] w fun e w' => e = .returned (.string (classAll l t a)) ∧ Below w.heap.size w w' := by
  have HR := Lib.hid hr
  have HRT := Lib.hid hrt
  clear hr hrt
  obtain ⟨k1, hk1⟩ := (Path_ev hzt a).rounds
  have HK1 := Lib.hid hk1
  clear hk1
  have hpl := pathAll_len t a
  have HPM := Lib.hid (pathAll_mem t a)
  have HCA : Hid (classAll l t a = if a < 0 then ⟨#[]⟩ else clsS l t (pathAll t a).reverse) := rfl
  generalize pathAll t a = q at *
  unfold LG
  have HX := Lib.hid (blk_new w (.cells #[.string ⟨#[]⟩, .slice none 0 0, .slice none 0 0, .slice none 0 0, .slice none 0 0, .slice none 0 0, .slice none 0 0, .slice none 0 0, .slice A l.length c, .slice none 0 0, .slice none 0 0, .slice none 0 0] 60))
  have HB := Lib.hid (below_alloc (Below.refl _ w) (.cells #[.string ⟨#[]⟩, .slice none 0 0, .slice none 0 0, .slice none 0 0, .slice none 0 0, .slice none 0 0, .slice none 0 0, .slice none 0 0, .slice A l.length c, .slice none 0 0, .slice none 0 0, .slice none 0 0] 60))
  go_enter Try.func23, Try.ntmps23
  have tok : True := trivial
  by_cases ha : a < 0
  · have hab : decide (a < 0) = true := decide_eq_true ha
    have HC := HCA
    rw [if_pos ha] at HC
    go_wp2_with fail
    go_ret
    exact ⟨by rw [HC.out]; rfl, HB.out⟩
  · have hab : decide (a < 0) = false := decide_eq_false ha
    have HC := HCA
    rw [if_neg ha] at HC
    clear HCA
    go_wp2_with fail
    generalize hw0 : w.alloc (.cells #[.string ⟨#[]⟩, .slice none 0 0, .slice none 0 0, .slice none 0 0, .slice none 0 0, .slice none 0 0, .slice none 0 0, .slice none 0 0, .slice A l.length c, .slice none 0 0, .slice none 0 0, .slice none 0 0] 60) = w0 at *
    clear hw0
    refine (trellisref15_Path.calls k1 B d t a q w0 (Kd.C_below HRT.out HB.out) hd HK1.out).mono ?_
    rintro e W1 ⟨v, rfl, hR, hbel⟩
    obtain ⟨Aq, cq, rfl, hcq, hCq⟩ := Kd.R_reads hR
    have HQ := Lib.hid hCq
    have HX1 := Lib.hid (blk_below HX.out hbel)
    have HB1 := Lib.hid (below_step HB.out hbel)
    clear hR hCq hbel HX HB
    have hqm : q.length ≤ 1048576 := by omega
    have hwr0 : IntKind.i64.wrap ((q.length : Int) - 1) = (q.length : Int) - 1 := IntWalk.i64_in _ (by omega)
    go_wp2_with fail
    go_loopw [8] (fun v w' => ∃ j : Nat, v = .int .i64 ((j : Int) - 1) ∧ j ≤ q.length ∧ Hid (Below W1.heap.size W1 w') ∧ Hid (clsS l t (q.take j).reverse = clsS l t q.reverse)) (fun v _ => (intOf v + 1).toNat)
    case atStart => exact ⟨q.length, rfl, Nat.le_refl _, Below.refl _ _, by show _ = _; rw [List.take_length]⟩
    case round =>
      obtain ⟨j, rfl, hj, HW, HL⟩ := hrel
      by_cases hj0 : 0 < j
      · obtain ⟨j, rfl⟩ : ∃ j', j = j' + 1 := ⟨j - 1, by omega⟩
        have hjl : j < q.length := by omega
        obtain ⟨adq, rfl, gq⟩ := Kd.at_int (Kd.C_below HQ.out HW.out) (j : Int) (by omega) (by omega)
        have hx : rd q (j : Int) = q[j] := by unfold rd; rw [Int.toNat_natCast, List.getD_eq_getElem?_getD, List.getElem?_eq_getElem hjl]; rfl
        rw [hx, Int.toNat_natCast] at gq
        have hL := clsS_step l t q j hjl
        rw [hL] at HL
        obtain ⟨hx0, hx1⟩ := HPM.out q[j] (List.getElem_mem hjl)
        generalize q[j] = x at *
        obtain ⟨adt, rfl, gt, _⟩ := at_T76 (Kd.C_below HRT.out (below_step HB1.out HW.out)) x hx0 (by omega)
        have hX := blk_below HX1.out HW.out
        generalize hnm : (rd_T76 t x).f0 = nm at *
        have HL1 := HL
        have HNX := Lib.hid hX
        have HGQ := Lib.hid gq
        have HGT := Lib.hid gt
        clear HL hx hL hX gq gt hnm
        have e1 : ((j + 1 : Nat) : Int) - 1 = (j : Int) := by omega
        have j1 : (0 : Int) ≤ (j : Int) := Int.natCast_nonneg _
        have j2 : (j : Int) < (q.length : Int) := by omega
        have hxt : x < (t.length : Int) := hx1
        rw [e1]
        go_wp2_with fail
        have HRL : Hid (Kd.C k99 wr.drew A l.length l) := Kd.C_below HR.out ((below_step HB1.out HW.out).drew)
        have HLN := Lib.hid (show Calls Try.prog 37 #[.agg #[.string ⟨#[]⟩, .slice none 0 0, .slice none 0 0, .slice none 0 0, .slice none 0 0, .slice none 0 0, .slice none 0 0, .slice none 0 0, .slice A l.length c, .slice none 0 0, .slice none 0 0, .slice none 0 0], .string nm] wr.drew _ from line_any A c l nm wr.drew HRL.out hz)
        refine start_ (n := 15) (S := fun w' => w'.cell? ⟨w.heap.size, 0, none⟩ = some (.string ⟨#[]⟩) ∧ w'.cell? ⟨w.heap.size, 1, none⟩ = some (.slice none 0 0) ∧ w'.cell? ⟨w.heap.size, 2, none⟩ = some (.slice none 0 0) ∧ w'.cell? ⟨w.heap.size, 3, none⟩ = some (.slice none 0 0) ∧ w'.cell? ⟨w.heap.size, 4, none⟩ = some (.slice none 0 0) ∧ w'.cell? ⟨w.heap.size, 5, none⟩ = some (.slice none 0 0) ∧ w'.cell? ⟨w.heap.size, 6, none⟩ = some (.slice none 0 0) ∧ w'.cell? ⟨w.heap.size, 7, none⟩ = some (.slice none 0 0) ∧ w'.cell? ⟨w.heap.size, 8, none⟩ = some (.slice A l.length c) ∧ w'.cell? ⟨w.heap.size, 9, none⟩ = some (.slice none 0 0) ∧ w'.cell? ⟨w.heap.size, 10, none⟩ = some (.slice none 0 0) ∧ w'.cell? ⟨w.heap.size, 11, none⟩ = some (.slice none 0 0) ∧ w'.cell? (adq.add j) = some (.int .i64 x) ∧ w'.cell? (adt.add (x.toNat * 7)) = some (.string nm)) (ds := []) #[false, false, false, false, false, false, false, false, false, false, false, false, false, false, false] (by kernel_rfl) rfl rfl ⟨blk_cell HNX.out 0, blk_cell HNX.out 1, blk_cell HNX.out 2, blk_cell HNX.out 3, blk_cell HNX.out 4, blk_cell HNX.out 5, blk_cell HNX.out 6, blk_cell HNX.out 7, blk_cell HNX.out 8, blk_cell HNX.out 9, blk_cell HNX.out 10, blk_cell HNX.out 11, HGQ.out, HGT.out⟩ (fun hHeld => ?_)
        refine pure_ (i := 1) (N := some 25) (v := ?_) (a' := ?_) #[false, true, false, false, false, false, false, false, false, false, false, false, false, false, false] rfl rfl (by kernel_rfl) (fun _ _ _ h => h) (Or.inl ⟨by rfl, ?_⟩) ?_ ?_
        rotate_left
        · intro w'
          go_simp
          with_reducible rfl
        rotate_left
        · simp only [Act.put, List.setIfInBounds_toArray, List.set_cons_zero, List.set_cons_succ, i64_w, i32_w]
          rfl
        refine pure_ (i := 2) (N := some 26) (v := ?_) (a' := ?_) #[false, true, true, false, false, false, false, false, false, false, false, false, false, false, false] rfl rfl (by kernel_rfl) (fun _ _ _ h => h) (Or.inl ⟨by rfl, ?_⟩) ?_ ?_
        rotate_left
        · intro w'
          go_simp
          with_reducible rfl
        rotate_left
        · simp only [Act.put, List.setIfInBounds_toArray, List.set_cons_zero, List.set_cons_succ, i64_w, i32_w]
          rfl
        refine pure_ (i := 3) (N := some 27) (v := ?_) (a' := ?_) #[false, true, true, true, false, false, false, false, false, false, false, false, false, false, false] rfl rfl (by kernel_rfl) (fun _ _ _ h => h) (Or.inl ⟨by rfl, ?_⟩) ?_ ?_
        rotate_left
        · intro w'
          go_simp
          with_reducible rfl
        rotate_left
        · simp only [Act.put, List.setIfInBounds_toArray, List.set_cons_zero, List.set_cons_succ, i64_w, i32_w]
          rfl
        refine pure_ (i := 4) (N := some 28) (v := ?_) (a' := ?_) #[false, true, true, true, true, false, false, false, false, false, false, false, false, false, false] rfl rfl (by kernel_rfl) (fun _ _ _ h => h) (Or.inl ⟨by rfl, ?_⟩) ?_ ?_
        rotate_left
        · intro w'
          go_simp
          with_reducible rfl
        rotate_left
        · simp only [Act.put, List.setIfInBounds_toArray, List.set_cons_zero, List.set_cons_succ, i64_w, i32_w]
          rfl
        refine take_ (i := 0) (N := some 24) (v := ?_) (a' := ?_) #[true, true, true, true, true, false, false, false, false, false, false, false, false, false, false] rfl rfl (by kernel_rfl) (fun _ _ _ h => h) (Or.inl ⟨by rfl, ?_⟩) hHeld ?_ ?_
        rotate_left
        · rintro w' ⟨s0, s1, s2, s3, s4, s5, s6, s7, s8, s9, s10, s11, s12, s13⟩
          go_simp
          with_reducible rfl
        rotate_left
        · simp only [Act.put, List.setIfInBounds_toArray, List.set_cons_zero, List.set_cons_succ, i64_w, i32_w]
          rfl
        refine take_ (i := 5) (N := some 29) (v := ?_) (a' := ?_) #[true, true, true, true, true, true, false, false, false, false, false, false, false, false, false] rfl rfl (by kernel_rfl) (fun _ _ _ h => h) (Or.inl ⟨by rfl, ?_⟩) hHeld ?_ ?_
        rotate_left
        · rintro w' ⟨s0, s1, s2, s3, s4, s5, s6, s7, s8, s9, s10, s11, s12, s13⟩
          go_simp
          with_reducible rfl
        rotate_left
        · simp only [Act.put, List.setIfInBounds_toArray, List.set_cons_zero, List.set_cons_succ, i64_w, i32_w]
          rfl
        refine pure_ (i := 6) (N := some 30) (v := ?_) (a' := ?_) #[true, true, true, true, true, true, true, false, false, false, false, false, false, false, false] rfl rfl (by kernel_rfl) (fun _ _ _ h => h) (Or.inl ⟨by rfl, ?_⟩) ?_ ?_
        rotate_left
        · intro w'
          go_simp
          with_reducible rfl
        rotate_left
        · simp only [Act.put, List.setIfInBounds_toArray, List.set_cons_zero, List.set_cons_succ, i64_w, i32_w]
          rfl
        refine pure_ (i := 7) (N := some 31) (v := ?_) (a' := ?_) #[true, true, true, true, true, true, true, true, false, false, false, false, false, false, false] rfl rfl (by kernel_rfl) (fun _ _ _ h => h) (Or.inl ⟨by rfl, ?_⟩) ?_ ?_
        rotate_left
        · intro w'
          go_simp
          with_reducible rfl
        rotate_left
        · simp only [Act.put, List.setIfInBounds_toArray, List.set_cons_zero, List.set_cons_succ, i64_w, i32_w]
          rfl
        refine take_ (i := 8) (N := some 32) (v := ?_) (a' := ?_) #[true, true, true, true, true, true, true, true, true, false, false, false, false, false, false] rfl rfl (by kernel_rfl) (fun _ _ _ h => h) (Or.inl ⟨by rfl, ?_⟩) hHeld ?_ ?_
        rotate_left
        · rintro w' ⟨s0, s1, s2, s3, s4, s5, s6, s7, s8, s9, s10, s11, s12, s13⟩
          go_simp
          with_reducible rfl
        rotate_left
        · simp only [Act.put, List.setIfInBounds_toArray, List.set_cons_zero, List.set_cons_succ, i64_w, i32_w]
          rfl
        refine one_ (i := 9) (N := some 33) #[true, true, true, true, true, true, true, true, true, true, false, false, false, false, false] rfl rfl (by kernel_rfl) (by decide) (fun K hK => ?_)
        refine goes_ Try.func37 (by kernel_rfl) rfl #[.agg #[.string ⟨#[]⟩, .slice none 0 0, .slice none 0 0, .slice none 0 0, .slice none 0 0, .slice none 0 0, .slice none 0 0, .slice none 0 0, .slice A l.length c, .slice none 0 0, .slice none 0 0, .slice none 0 0], .string nm] (by rfl) rfl rfl (by simp only [List.map_toArray, List.map_cons, List.map_nil]; rfl) ?_
        with_reducible refine (HLN.out).mono ?_
        rintro e W2 ⟨rfl, hbel⟩
        refine ⟨_, rfl, ?_⟩
        have HX2 := Lib.hid (blk_below (show wr.drew.heap[w.heap.size]? = _ from HNX.out) hbel)
        have HB2 : Hid (Below W1.heap.size W1 W2) := below_step HW.out.drew hbel
        have HGQ2 := Lib.hid (pw_cell_below hbel HGQ.out)
        have HGT2 := Lib.hid (pw_cell_below hbel HGT.out)
        clear hbel
        refine hK.out _ _ ⟨blk_cell HX2.out 0, blk_cell HX2.out 1, blk_cell HX2.out 2, blk_cell HX2.out 3, blk_cell HX2.out 4, blk_cell HX2.out 5, blk_cell HX2.out 6, blk_cell HX2.out 7, blk_cell HX2.out 8, blk_cell HX2.out 9, blk_cell HX2.out 10, blk_cell HX2.out 11, HGQ2.out, HGT2.out⟩ (fun hHeld => ?_)
        clear hK K
        refine norm_ (a' := ?_) ?_ ?_
        rotate_left
        · show Act.put _ (some 33) _ = _
          simp only [Act.put, List.setIfInBounds_toArray, List.set_cons_zero, List.set_cons_succ, i64_w, i32_w]
          rfl
        refine pure_ (i := 10) (N := some 23) (v := ?_) (a' := ?_) #[true, true, true, true, true, true, true, true, true, true, true, false, false, false, false] rfl rfl (by kernel_rfl) (fun _ _ _ h => h) (Or.inl ⟨by rfl, ?_⟩) ?_ ?_
        rotate_left
        · intro w'
          go_simp
          with_reducible rfl
        rotate_left
        · simp only [Act.put, List.setIfInBounds_toArray, List.set_cons_zero, List.set_cons_succ, i64_w, i32_w]
          rfl
        refine pure_ (i := 11) (N := some 34) (v := ?_) (a' := ?_) #[true, true, true, true, true, true, true, true, true, true, true, true, false, false, false] rfl rfl (by kernel_rfl) (fun _ _ _ h => h) (Or.inl ⟨by rfl, ?_⟩) ?_ ?_
        rotate_left
        · intro w'
          go_simp
          with_reducible rfl
        rotate_left
        · simp only [Act.put, List.setIfInBounds_toArray, List.set_cons_zero, List.set_cons_succ, i64_w, i32_w]
          rfl
        refine pure_ (i := 12) (N := some 35) (v := ?_) (a' := ?_) #[true, true, true, true, true, true, true, true, true, true, true, true, true, false, false] rfl rfl (by kernel_rfl) (fun _ _ _ h => h) (Or.inl ⟨by rfl, ?_⟩) ?_ ?_
        rotate_left
        · intro w'
          go_simp
          with_reducible rfl
        rotate_left
        · simp only [Act.put, List.setIfInBounds_toArray, List.set_cons_zero, List.set_cons_succ, i64_w, i32_w]
          rfl
        refine pure_ (i := 13) (N := some 9) (v := ?_) (a' := ?_) #[true, true, true, true, true, true, true, true, true, true, true, true, true, true, false] rfl rfl (by kernel_rfl) (fun _ _ _ h => h) (Or.inl ⟨by rfl, ?_⟩) ?_ ?_
        rotate_left
        · intro w'
          go_simp
          with_reducible rfl
        rotate_left
        · simp only [Act.put, List.setIfInBounds_toArray, List.set_cons_zero, List.set_cons_succ, i64_w, i32_w]
          rfl
        refine pure_ (i := 14) (N := some 10) (v := ?_) (a' := ?_) #[true, true, true, true, true, true, true, true, true, true, true, true, true, true, true] rfl rfl (by kernel_rfl) (fun _ _ _ h => h) (Or.inl ⟨by rfl, ?_⟩) ?_ ?_
        rotate_left
        · intro w'
          go_simp
          with_reducible rfl
        rotate_left
        · simp only [Act.put, List.setIfInBounds_toArray, List.set_cons_zero, List.set_cons_succ, i64_w, i32_w]
          rfl
        refine done_ (by kernel_rfl) ?_
        clear HRL HLN HNX HGQ HGT
        cases hln : lineS nm l with
        | some cl =>
          rw [hln] at HL1
          go_wp2_with fail
          go_ret
          exact ⟨by rw [HC.out, ← HL1.out]; rfl, below_step HB1.out HB2.out⟩
        | none =>
          rw [hln] at HL1
          go_wp2_with fail
          go_roundw
          case rel => exact ⟨j, by go_num, by omega, HB2, HL1⟩
          case measure => simp [intOf]
      · have hje : j = 0 := by omega
        subst hje
        have HL1 := HL
        go_wp2_with fail
        go_ret
        exact ⟨by rw [HC.out, ← HL1.out]; rfl, below_step HB1.out HW.out⟩
end Paint
end Go.Proofs.Ytcijanmckhlpiaa
