import Derived.Test.YtcijanmckhlpiaaERoomy0
namespace Go.Proofs.Ytcijanmckhlpiaa
open Go.RowKit Go.Proofs.YtcijanmckhlpiaaW.PrintWords Go.Proofs.YtcijanmckhlpiaaW.PrintLast Go.Proofs.YtcijanmckhlpiaaW.PrintMore Go.Proofs.Ytcijanmckhlpiaa.PTableEncodes
set_option linter.unusedVariables false
set_option linter.unusedSimpArgs false

set_option maxRecDepth 100000 in
set_option maxHeartbeats 4000000 in
theorem roomy_any (A0 : Option Addr) (c0 : Nat) (l0 : List (List S80)) (A1 : Option Addr) (c1 : Nat) (l1 : List (List Int)) (w : World)
    (hr0 : Kd.C (Kd.slice 80 k80) w A0 l0.length l0) (hr1 : Kd.C (Kd.slice 3 kI) w A1 l1.length l1)
    (hz0 : (l0.length + 1) * 24 ≤ 140737488355328) (hz1 : (l1.length + 1) * 24 ≤ 140737488355328) (hy0 : ∀ x ∈ l0, (x.length + 1) * 16 ≤ 140737488355328) (hy1 : ∀ x ∈ l1, (x.length + 1) * 8 ≤ 140737488355328) :
    Calls Try.prog 10 #[.agg #[.slice A0 l0.length c0, .slice A1 l1.length c1]] w fun e w' => ∃ gA cA gG cG : Nat, e = .returned (.agg #[.slice (some ⟨gA, 0, none⟩) l0.length cA, .slice (some ⟨gG, 0, none⟩) l1.length cG]) ∧
      (Kd.spare 80 k80).R 77 w' w.heap.size tru (.slice (some ⟨gA, 0, none⟩) (l0.length + 1) cA) (xA l0 ++ [(markA, [])]) ∧ (Kd.spare 3 kI).R 33 w' w.heap.size tru (.slice (some ⟨gG, 0, none⟩) (l1.length + 1) cG) (xG l1 ++ [(markG, [])]) ∧ Below w.heap.size w w' := by
  have HR0 := Lib.hid hr0
  have HR1 := Lib.hid hr1
  have HY0 := Lib.hid hy0
  have HY1 := Lib.hid hy1
  clear hr0 hr1 hy0 hy1
  go_enter Try.func10, Try.ntmps10
  go_wp2_with fail
  go_loopw [4] (fun v4 w' => ∃ (s : Nat) (u : Value), v4 = .int .i64 s ∧ s ≤ l0.length ∧ Hid (RI w (.slice A0 l0.length c0) (.slice A1 l1.length c1) u (.slice none 0 0) (xA (l0.take s)) [] w')) (fun v4 _ => l0.length - (intOf v4).toNat)
  case atStart => exact ⟨0, .slice none 0 0, rfl, Nat.zero_le _, RI.start _ _ _⟩
  case round =>
    try clear HI
    obtain ⟨s, u, rfl, hs, HI⟩ := hrel
    have b10 : wr.cell? ⟨w.heap.size, 0, none⟩ = some (.slice A0 l0.length c0) := blk_cell HI.out.b1 0
    have b30 : wr.cell? ⟨w.heap.size + 1 + 1, 0, none⟩ = some u := blk_cell HI.out.b3 0
    by_cases hlt : s < l0.length
    · obtain ⟨ad, A', c', rfl, hcell, hle, hC0⟩ := at_L2 HR0.out s (by omega) (by omega)
      have hC := Kd.C_below hC0 HI.out.below
      clear hC0
      have g0w : w.cell? (ad.add s) = some (.slice A' (rd_L2 l0 s).length c') := hcell
      have g20 : wr.cell? (ad.add s) = some (.slice A' (rd_L2 l0 s).length c') := pw_cell_below HI.out.below g0w
      have hrl := HY0.out (rd_L2 l0 s) (by unfold rd_L2; rw [Int.toNat_natCast, List.getD_eq_getElem?_getD, List.getElem?_eq_getElem hlt]; exact List.getElem_mem hlt)
      have hsn : l0.take (s + 1) = l0.take s ++ [rd_L2 l0 s] := by unfold rd_L2; rw [Int.toNat_natCast, List.getD_eq_getElem?_getD, List.getElem?_eq_getElem hlt, List.take_succ_eq_append_getElem hlt]; rfl
      clear hcell
      generalize hrow : rd_L2 l0 s = row at *
      have G0W := Lib.hid g0w
      have HC := Lib.hid hC
      have HL := Lib.hid hle
      have HSN := Lib.hid hsn
      have hL2 : row.length ≤ 9223372036854775807 := hC.2.1
      clear g0w hC hle hrow hsn
      have HBZ := Lib.hid HI.out.below.size
      go_wp2_with (first | ((with_reducible refine gate_builtin (b := .append) (xs := #[.tmp 17, .tmp 22]) rfl ?_); at_builtin; refine Kd.R_append_rows k80 (w0 := w) w.heap.size rfl (.tmp 17) (.tmp 22) 77 80 (.agg #[(.int .i64 0), (.int .i64 0)]) 16 rfl Try.underlying77 info80 rfl (by decide) (by omega) (.slice none 0 0) ([] : List S80) row _ _ _ tru (fun _ => False) rfl rfl (Kd.R_nil _ _ _ _ _) HC.out (fun _ _ h => h) (fun _ h => h.elim) (fun _ _ => trivial) HI.out.below HBZ.out (by simp; omega) ?_; intro v1 w1 ho1 hb1 hg1 hat1; have HO1 := Lib.hid ho1; have HB1 := Lib.hid hb1; have HG1 := Lib.hid hg1; have HAT1 := Lib.hid hat1; have HBZ1 := Lib.hid hb1.size; clear ho1 hb1 hg1 hat1) | ((with_reducible refine gate_builtin (b := .append) (xs := #[.tmp 24, .tmp 26]) rfl ?_); at_builtin; refine Kd.R_append k80 (w0 := w) w.heap.size rfl (.tmp 24) (.tmp 26) 77 80 (.agg #[(.int .i64 0), (.int .i64 0)]) 16 rfl Try.underlying77 info80 rfl (by decide) (by omega) v1 ([] ++ row) (⟨0, (-77)⟩ : S80) [.int .i64 0, .int .i64 (-77)] tru (fun _ => False) rfl rfl (k80_mkM _ _ _ (⟨0, (-77)⟩ : S80)) (fun _ hk => hk.elim) (fun _ _ => trivial) HO1.out HB1.out HBZ1.out (by simpa using hrl) ?_; intro v2 w2 ho2 hb2 hg2 hat2; have HO2 := Lib.hid ho2; have HB2 := Lib.hid hb2; have HG2 := Lib.hid hg2; have HAT2 := Lib.hid hat2; have HBZ2 := Lib.hid hb2.size; clear ho2 hb2 hg2 hat2))
      obtain ⟨g2, cap2, rfl, hg2b, hg2l, _⟩ := Kd.R_form HO2.out (by simp)
      obtain ⟨i0, hi0, _, _, _⟩ := info_parts info80
      have hlen2 : ([] ++ row ++ [(⟨0, (-77)⟩ : S80)]).length = row.length + 1 := by simp
      have hcap2 : row.length + 1 ≤ cap2 := by rw [← hlen2]; exact (Kd.R_reads' HO2.out).2.1
      have HO2' := HO2.out
      rw [hlen2] at HO2'
      have HO3 := Lib.hid HO2'
      rw [hlen2]
      have hcut := cut_to (P := Try.prog) 77 80 .i64 Try.underlying77 hi0 (some ⟨g2, 0, none⟩) (row.length + 1) cap2 (row.length : Int) (by omega) (by omega) hcap2
      rw [Int.toNat_natCast] at hcut
      have HB12 := Lib.hid (kept2 rfl HG1.out HAT1.out HG2.out)
      have HI2 := Lib.hid (HI.out.later HB12.out)
      have C3W := Lib.hid (pw_cell_below HB12.out g20)
      clear b10 b30 g20 HO2 HO2' hlen2
      have i1 : (0 : Int) ≤ (s : Int) := Int.natCast_nonneg _
      have i2 : (s : Int) < (l0.length : Int) := by omega
      have HM : Hid ((Kd.spare 80 k80).M w2.drew w.heap.size (fun k => some k ≠ u.ownBlock) (row, markA) [.slice (some ⟨g2, 0, none⟩) row.length cap2]) :=
        ⟨_, _, rfl, by
          have h := Kd.R_mono (Kd.R_apart' (Kd.R_drew HO3.out) (Kd.R_typed HI2.out.drew.rA) (by decide)) (ok' := fun k => some k ≠ u.ownBlock) (fun k hk => hk.2)
          rwa [show row.length + 1 = (row ++ markA).length by simp [markA]] at h⟩
      have HRA : Hid ((Kd.spare 80 k80).R 77 w2.drew w.heap.size tru u (xA (l0.take s))) := HI2.out.drew.rA
      have HBB : Hid (Below w.heap.size w w2.drew) := HB2.out.drew
      have HBS : Hid (w.heap.size ≤ w2.drew.heap.size) := HBZ2.out
      have HLL : Hid (((xA (l0.take s)).length + 1) * 24 ≤ 140737488355328) := by show _ ≤ _; simp [xA]; omega
      refine start_ (n := 14) (S := fun w' => w'.cell? ⟨w.heap.size + 1 + 1, 0, none⟩ = some u ∧ w'.cell? ⟨w.heap.size, 0, none⟩ = some (.slice (some ad) l0.length c0) ∧ w'.cell? (ad.add s) = some (.slice A' row.length c')) (ds := [13]) #[false, false, false, false, false, false, false, false, false, false, false, false, false, false] (by kernel_rfl) rfl rfl ⟨blk_cell HI2.out.b3 0, blk_cell HI2.out.b1 0, C3W.out⟩ (fun hHeld => ?_)
      refine pure_ (i := 0) (N := some 28) (v := ?_) (a' := ?_) #[true, false, false, false, false, false, false, false, false, false, false, false, false, false] rfl rfl (by kernel_rfl) (fun _ _ _ h => h) (Or.inl ⟨by rfl, ?_⟩) ?_ ?_
      rotate_left
      · intro w'
        go_simp
        with_reducible rfl
      rotate_left
      · simp only [Act.put, List.setIfInBounds_toArray, List.set_cons_zero, List.set_cons_succ, i64_w, i32_w]
        rfl
      refine pure_ (i := 2) (N := some 30) (v := ?_) (a' := ?_) #[true, false, true, false, false, false, false, false, false, false, false, false, false, false] rfl rfl (by kernel_rfl) (fun _ _ _ h => h) (Or.inl ⟨by rfl, ?_⟩) ?_ ?_
      rotate_left
      · intro w'
        go_simp
        with_reducible rfl
      rotate_left
      · simp only [Act.put, List.setIfInBounds_toArray, List.set_cons_zero, List.set_cons_succ, i64_w, i32_w]
        rfl
      refine pure_ (i := 3) (N := some 31) (v := ?_) (a' := ?_) #[true, false, true, true, false, false, false, false, false, false, false, false, false, false] rfl rfl (by kernel_rfl) (fun _ _ _ h => h) (Or.inl ⟨by rfl, ?_⟩) ?_ ?_
      rotate_left
      · intro w'
        go_simp
        with_reducible rfl
      rotate_left
      · simp only [Act.put, List.setIfInBounds_toArray, List.set_cons_zero, List.set_cons_succ, i64_w, i32_w]
        rfl
      refine pure_ (i := 5) (N := some 33) (v := ?_) (a' := ?_) #[true, false, true, true, false, true, false, false, false, false, false, false, false, false] rfl rfl (by kernel_rfl) (fun _ _ _ h => h) (Or.inl ⟨by rfl, ?_⟩) ?_ ?_
      rotate_left
      · intro w'
        go_simp
        with_reducible rfl
      rotate_left
      · simp only [Act.put, List.setIfInBounds_toArray, List.set_cons_zero, List.set_cons_succ, i64_w, i32_w]
        rfl
      refine take_ (i := 1) (N := some 29) (v := ?_) (a' := ?_) #[true, true, true, true, false, true, false, false, false, false, false, false, false, false] rfl rfl (by kernel_rfl) (fun _ _ _ h => h) (Or.inl ⟨by rfl, ?_⟩) hHeld ?_ ?_
      rotate_left
      · rintro w' ⟨s0, s1, s2⟩
        go_simp
        with_reducible rfl
      rotate_left
      · simp only [Act.put, List.setIfInBounds_toArray, List.set_cons_zero, List.set_cons_succ, i64_w, i32_w]
        rfl
      refine take_ (i := 4) (N := some 32) (v := ?_) (a' := ?_) #[true, true, true, true, true, true, false, false, false, false, false, false, false, false] rfl rfl (by kernel_rfl) (fun _ _ _ h => h) (Or.inl ⟨by rfl, ?_⟩) hHeld ?_ ?_
      rotate_left
      · rintro w' ⟨s0, s1, s2⟩
        go_simp
        with_reducible rfl
      rotate_left
      · simp only [Act.put, List.setIfInBounds_toArray, List.set_cons_zero, List.set_cons_succ, i64_w, i32_w]
        rfl
      refine pure_ (i := 6) (N := some 34) (v := ?_) (a' := ?_) #[true, true, true, true, true, true, true, false, false, false, false, false, false, false] rfl rfl (by kernel_rfl) (fun _ _ _ h => h) (Or.inl ⟨by rfl, ?_⟩) ?_ ?_
      rotate_left
      · intro w'
        go_simp
        with_reducible rfl
      rotate_left
      · simp only [Act.put, List.setIfInBounds_toArray, List.set_cons_zero, List.set_cons_succ, i64_w, i32_w]
        rfl
      refine take_ (i := 7) (N := some 35) (v := ?_) (a' := ?_) #[true, true, true, true, true, true, true, true, false, false, false, false, false, false] rfl rfl (by kernel_rfl) (fun _ _ _ h => h) (Or.inl ⟨by rfl, ?_⟩) hHeld ?_ ?_
      rotate_left
      · rintro w' ⟨s0, s1, s2⟩
        go_simp
        with_reducible rfl
      rotate_left
      · simp only [Act.put, List.setIfInBounds_toArray, List.set_cons_zero, List.set_cons_succ, i64_w, i32_w]
        rfl
      refine pure_ (i := 8) (N := some 36) (v := ?_) (a' := ?_) #[true, true, true, true, true, true, true, true, true, false, false, false, false, false] rfl rfl (by kernel_rfl) (fun _ _ _ h => h) (Or.inl ⟨by rfl, ?_⟩) ?_ ?_
      rotate_left
      · intro w'
        go_simp
        with_reducible rfl
      rotate_left
      · simp only [Act.put, List.setIfInBounds_toArray, List.set_cons_zero, List.set_cons_succ, i64_w, i32_w]
        rfl
      refine pure_ (i := 9) (N := some 37) (v := ?_) (a' := ?_) #[true, true, true, true, true, true, true, true, true, true, false, false, false, false] rfl rfl (by kernel_rfl) (fun _ _ _ h => h) (Or.inl ⟨by rfl, ?_⟩) ?_ ?_
      rotate_left
      · intro w'
        go_simp
        with_reducible rfl
      rotate_left
      · simp only [Act.put, List.setIfInBounds_toArray, List.set_cons_zero, List.set_cons_succ, i64_w, i32_w]
        rfl
      refine one_ (i := 10) (N := some 38) #[true, true, true, true, true, true, true, true, true, true, true, false, false, false] rfl rfl (by kernel_rfl) (by decide) (fun K hK => ?_)
      refine value_ (w1 := ?_) (v := ?_) (by rfl) rfl ?_ ?_
      rotate_left 2
      · go_simp
        constructor
        · rfl
        · rfl
      refine hK.out _ _ ⟨blk_cell (blk_alloc HI2.out.b3 _) 0, blk_cell (blk_alloc HI2.out.b1 _) 0, pw_cell_below (below_alloc (Below.refl _ _) _) C3W.out⟩ (fun hHeld => ?_)
      clear hK K
      refine norm_ (a' := ?_) ?_ ?_
      rotate_left
      · show Act.put _ (some 38) _ = _
        simp only [Act.put, List.setIfInBounds_toArray, List.set_cons_zero, List.set_cons_succ, i64_w, i32_w]
        rfl
      refine one_ (i := 11) (N := some 39) #[true, true, true, true, true, true, true, true, true, true, true, true, false, false] rfl rfl (by kernel_rfl) (by decide) (fun K hK => ?_)
      refine Kd.R_append_step (Kd.spare 80 k80) (w0 := w) (W := w2.drew) w.heap.size (by rfl) (.tmp 29) (.tmp 38) 22 77 (.slice none 0 0) 24 rfl Try.underlying22 info77 rfl (by decide) (by omega) u (xA (l0.take s)) (row, markA) [.slice (some ⟨g2, 0, none⟩) row.length cap2] tru (fun k => some k ≠ u.ownBlock) rfl rfl HM.out (fun _ hk => ⟨trivial, hk⟩) (fun _ _ => trivial) HRA.out HBB.out HBS.out HLL.out ?_
      intro u1 w3 ho3 hb3 hg3 hat3
      obtain ⟨g3, cap3, e3, hg3b, hg3l, _⟩ := Kd.R_form ho3 (by simp)
      rw [List.length_append, List.length_singleton] at e3
      subst e3
      have q1 : w3.cell? ⟨w.heap.size + 1 + 1, 0, none⟩ = some u := blk_cell (HI2.out.drew.grownrA hg3).2.2 0
      have q2 : w3.frozen? ⟨w.heap.size + 1 + 1, 0, none⟩ = false := blk_frozen (HI2.out.drew.grownrA hg3).2.2 0
      refine hK.out _ _ ⟨blk_cell (HI2.out.drew.grownrA hg3).2.2 0, blk_cell (HI2.out.drew.grownrA hg3).1 0, pw_cell_below hb3 G0W.out⟩ (fun hHeld => ?_)
      clear hK K
      refine norm_ (a' := ?_) ?_ ?_
      rotate_left
      · show Act.put _ (some 39) _ = _
        simp only [Act.put, List.setIfInBounds_toArray, List.set_cons_zero, List.set_cons_succ, i64_w, i32_w]
        rfl
      refine pure_ (i := 12) (N := some 40) (v := ?_) (a' := ?_) #[true, true, true, true, true, true, true, true, true, true, true, true, true, false] rfl rfl (by kernel_rfl) (fun _ _ _ h => h) (Or.inl ⟨by rfl, ?_⟩) ?_ ?_
      rotate_left
      · intro w'
        go_simp
        with_reducible rfl
      rotate_left
      · simp only [Act.put, List.setIfInBounds_toArray, List.set_cons_zero, List.set_cons_succ, i64_w, i32_w]
        rfl
      refine last_ (i := 13) (N := none) #[true, true, true, true, true, true, true, true, true, true, true, true, true, true] rfl rfl (by kernel_rfl) (by decide) (fun K hK => ?_)
      refine skip_ (w1 := ?_) (by rfl) rfl ?_ ?_
      rotate_left
      · go_simp
        rfl
      refine hK.out _ _ ?_
      clear hK K
      refine done_ (by kernel_rfl) ?_
      go_wp2_with fail
      go_roundw
      case rel =>
        refine ⟨s + 1, .slice (some ⟨g3, 0, none⟩) ((xA (l0.take s)).length + 1) cap3, by go_num, by omega, ?_⟩
        rw [HSN.out]
        have hx : xA (l0.take s ++ [row]) = xA (l0.take s) ++ [(row, markA)] := by simp [xA]
        rw [hx]
        exact HI2.out.drew.setA hb3 hg3 ho3
      case measure => simp [intOf]; omega
    · have hse : s = l0.length := by omega
      subst hse
      rw [List.take_length] at HI
      clear b30
      go_wp2_with fail
      obtain ⟨uA, rfl⟩ : ∃ x, x = u := ⟨_, rfl⟩
      clear b10
      go_loopw [6] (fun v4 w' => ∃ (s : Nat) (u : Value), v4 = .int .i64 s ∧ s ≤ l1.length ∧ Hid (RI w (.slice A0 l0.length c0) (.slice A1 l1.length c1) uA u (xA l0) (xG (l1.take s)) w')) (fun v4 _ => l1.length - (intOf v4).toNat)
      case atStart => exact ⟨0, .slice none 0 0, rfl, Nat.zero_le _, HI⟩
      case round =>
        try clear HI
        obtain ⟨s, u, rfl, hs, HI⟩ := hrel
        have b10 : wr.cell? ⟨w.heap.size, 1, none⟩ = some (.slice A1 l1.length c1) := blk_cell HI.out.b1 1
        have b30 : wr.cell? ⟨w.heap.size + 1 + 1, 1, none⟩ = some u := blk_cell HI.out.b3 1
        by_cases hlt : s < l1.length
        · obtain ⟨ad, A', c', rfl, hcell, hle, hC0⟩ := at_L3 HR1.out s (by omega) (by omega)
          have hC := Kd.C_below hC0 HI.out.below
          clear hC0
          have g0w : w.cell? (ad.add s) = some (.slice A' (rd_L3 l1 s).length c') := hcell
          have g20 : wr.cell? (ad.add s) = some (.slice A' (rd_L3 l1 s).length c') := pw_cell_below HI.out.below g0w
          have hrl := HY1.out (rd_L3 l1 s) (by unfold rd_L3; rw [Int.toNat_natCast, List.getD_eq_getElem?_getD, List.getElem?_eq_getElem hlt]; exact List.getElem_mem hlt)
          have hsn : l1.take (s + 1) = l1.take s ++ [rd_L3 l1 s] := by unfold rd_L3; rw [Int.toNat_natCast, List.getD_eq_getElem?_getD, List.getElem?_eq_getElem hlt, List.take_succ_eq_append_getElem hlt]; rfl
          clear hcell
          generalize hrow : rd_L3 l1 s = row at *
          have G0W := Lib.hid g0w
          have HC := Lib.hid hC
          have HL := Lib.hid hle
          have HSN := Lib.hid hsn
          have hL2 : row.length ≤ 9223372036854775807 := hC.2.1
          clear g0w hC hle hrow hsn
          have HBZ := Lib.hid HI.out.below.size
          go_wp2_with (first | ((with_reducible refine gate_builtin (b := .append) (xs := #[.tmp 48, .tmp 53]) rfl ?_); at_builtin; refine Kd.R_append_rows kI (w0 := w) w.heap.size rfl (.tmp 48) (.tmp 53) 33 3 (.int .i64 0) 8 rfl Try.underlying33 info3 rfl (by decide) (by omega) (.slice none 0 0) ([] : List Int) row _ _ _ tru (fun _ => False) rfl rfl (Kd.R_nil _ _ _ _ _) HC.out (fun _ _ h => h) (fun _ h => h.elim) (fun _ _ => trivial) HI.out.below HBZ.out (by simp; omega) ?_; intro v1 w1 ho1 hb1 hg1 hat1; have HO1 := Lib.hid ho1; have HB1 := Lib.hid hb1; have HG1 := Lib.hid hg1; have HAT1 := Lib.hid hat1; have HBZ1 := Lib.hid hb1.size; clear ho1 hb1 hg1 hat1) | ((with_reducible refine gate_builtin (b := .append) (xs := #[.tmp 55, .tmp 56]) rfl ?_); at_builtin; refine Kd.R_append kI (w0 := w) w.heap.size rfl (.tmp 55) (.tmp 56) 33 3 (.int .i64 0) 8 rfl Try.underlying33 info3 rfl (by decide) (by omega) v1 ([] ++ row) (-77 : Int) [.int .i64 (-77)] tru (fun _ => False) rfl rfl rfl (fun _ hk => hk.elim) (fun _ _ => trivial) HO1.out HB1.out HBZ1.out (by simpa using hrl) ?_; intro v2 w2 ho2 hb2 hg2 hat2; have HO2 := Lib.hid ho2; have HB2 := Lib.hid hb2; have HG2 := Lib.hid hg2; have HAT2 := Lib.hid hat2; have HBZ2 := Lib.hid hb2.size; clear ho2 hb2 hg2 hat2))
          obtain ⟨g2, cap2, rfl, hg2b, hg2l, _⟩ := Kd.R_form HO2.out (by simp)
          obtain ⟨i0, hi0, _, _, _⟩ := info_parts info3
          have hlen2 : ([] ++ row ++ [(-77 : Int)]).length = row.length + 1 := by simp
          have hcap2 : row.length + 1 ≤ cap2 := by rw [← hlen2]; exact (Kd.R_reads' HO2.out).2.1
          have HO2' := HO2.out
          rw [hlen2] at HO2'
          have HO3 := Lib.hid HO2'
          rw [hlen2]
          have hcut := cut_to (P := Try.prog) 33 3 .i64 Try.underlying33 hi0 (some ⟨g2, 0, none⟩) (row.length + 1) cap2 (row.length : Int) (by omega) (by omega) hcap2
          rw [Int.toNat_natCast] at hcut
          have HB12 := Lib.hid (kept2 rfl HG1.out HAT1.out HG2.out)
          have HI2 := Lib.hid (HI.out.later HB12.out)
          have C3W := Lib.hid (pw_cell_below HB12.out g20)
          clear b10 b30 g20 HO2 HO2' hlen2
          have i1 : (0 : Int) ≤ (s : Int) := Int.natCast_nonneg _
          have i2 : (s : Int) < (l1.length : Int) := by omega
          have HM : Hid ((Kd.spare 3 kI).M w2.drew w.heap.size (fun k => some k ≠ u.ownBlock) (row, markG) [.slice (some ⟨g2, 0, none⟩) row.length cap2]) :=
            ⟨_, _, rfl, by
              have h := Kd.R_mono (Kd.R_apart' (Kd.R_drew HO3.out) (Kd.R_typed HI2.out.drew.rG) (by decide)) (ok' := fun k => some k ≠ u.ownBlock) (fun k hk => hk.2)
              rwa [show row.length + 1 = (row ++ markG).length by simp [markG]] at h⟩
          have HRA : Hid ((Kd.spare 3 kI).R 33 w2.drew w.heap.size tru u (xG (l1.take s))) := HI2.out.drew.rG
          have HBB : Hid (Below w.heap.size w w2.drew) := HB2.out.drew
          have HBS : Hid (w.heap.size ≤ w2.drew.heap.size) := HBZ2.out
          have HLL : Hid (((xG (l1.take s)).length + 1) * 24 ≤ 140737488355328) := by show _ ≤ _; simp [xG]; omega
          refine start_ (n := 14) (S := fun w' => w'.cell? ⟨w.heap.size + 1 + 1, 1, none⟩ = some u ∧ w'.cell? ⟨w.heap.size, 1, none⟩ = some (.slice (some ad) l1.length c1) ∧ w'.cell? (ad.add s) = some (.slice A' row.length c')) (ds := [13]) #[false, false, false, false, false, false, false, false, false, false, false, false, false, false] (by kernel_rfl) rfl rfl ⟨blk_cell HI2.out.b3 1, blk_cell HI2.out.b1 1, C3W.out⟩ (fun hHeld => ?_)
          refine pure_ (i := 0) (N := some 58) (v := ?_) (a' := ?_) #[true, false, false, false, false, false, false, false, false, false, false, false, false, false] rfl rfl (by kernel_rfl) (fun _ _ _ h => h) (Or.inl ⟨by rfl, ?_⟩) ?_ ?_
          rotate_left
          · intro w'
            go_simp
            with_reducible rfl
          rotate_left
          · simp only [Act.put, List.setIfInBounds_toArray, List.set_cons_zero, List.set_cons_succ, i64_w, i32_w]
            rfl
          refine pure_ (i := 2) (N := some 60) (v := ?_) (a' := ?_) #[true, false, true, false, false, false, false, false, false, false, false, false, false, false] rfl rfl (by kernel_rfl) (fun _ _ _ h => h) (Or.inl ⟨by rfl, ?_⟩) ?_ ?_
          rotate_left
          · intro w'
            go_simp
            with_reducible rfl
          rotate_left
          · simp only [Act.put, List.setIfInBounds_toArray, List.set_cons_zero, List.set_cons_succ, i64_w, i32_w]
            rfl
          refine pure_ (i := 3) (N := some 61) (v := ?_) (a' := ?_) #[true, false, true, true, false, false, false, false, false, false, false, false, false, false] rfl rfl (by kernel_rfl) (fun _ _ _ h => h) (Or.inl ⟨by rfl, ?_⟩) ?_ ?_
          rotate_left
          · intro w'
            go_simp
            with_reducible rfl
          rotate_left
          · simp only [Act.put, List.setIfInBounds_toArray, List.set_cons_zero, List.set_cons_succ, i64_w, i32_w]
            rfl
          refine pure_ (i := 5) (N := some 63) (v := ?_) (a' := ?_) #[true, false, true, true, false, true, false, false, false, false, false, false, false, false] rfl rfl (by kernel_rfl) (fun _ _ _ h => h) (Or.inl ⟨by rfl, ?_⟩) ?_ ?_
          rotate_left
          · intro w'
            go_simp
            with_reducible rfl
          rotate_left
          · simp only [Act.put, List.setIfInBounds_toArray, List.set_cons_zero, List.set_cons_succ, i64_w, i32_w]
            rfl
          refine take_ (i := 1) (N := some 59) (v := ?_) (a' := ?_) #[true, true, true, true, false, true, false, false, false, false, false, false, false, false] rfl rfl (by kernel_rfl) (fun _ _ _ h => h) (Or.inl ⟨by rfl, ?_⟩) hHeld ?_ ?_
          rotate_left
          · rintro w' ⟨s0, s1, s2⟩
            go_simp
            with_reducible rfl
          rotate_left
          · simp only [Act.put, List.setIfInBounds_toArray, List.set_cons_zero, List.set_cons_succ, i64_w, i32_w]
            rfl
          refine take_ (i := 4) (N := some 62) (v := ?_) (a' := ?_) #[true, true, true, true, true, true, false, false, false, false, false, false, false, false] rfl rfl (by kernel_rfl) (fun _ _ _ h => h) (Or.inl ⟨by rfl, ?_⟩) hHeld ?_ ?_
          rotate_left
          · rintro w' ⟨s0, s1, s2⟩
            go_simp
            with_reducible rfl
          rotate_left
          · simp only [Act.put, List.setIfInBounds_toArray, List.set_cons_zero, List.set_cons_succ, i64_w, i32_w]
            rfl
          refine pure_ (i := 6) (N := some 64) (v := ?_) (a' := ?_) #[true, true, true, true, true, true, true, false, false, false, false, false, false, false] rfl rfl (by kernel_rfl) (fun _ _ _ h => h) (Or.inl ⟨by rfl, ?_⟩) ?_ ?_
          rotate_left
          · intro w'
            go_simp
            with_reducible rfl
          rotate_left
          · simp only [Act.put, List.setIfInBounds_toArray, List.set_cons_zero, List.set_cons_succ, i64_w, i32_w]
            rfl
          refine take_ (i := 7) (N := some 65) (v := ?_) (a' := ?_) #[true, true, true, true, true, true, true, true, false, false, false, false, false, false] rfl rfl (by kernel_rfl) (fun _ _ _ h => h) (Or.inl ⟨by rfl, ?_⟩) hHeld ?_ ?_
          rotate_left
          · rintro w' ⟨s0, s1, s2⟩
            go_simp
            with_reducible rfl
          rotate_left
          · simp only [Act.put, List.setIfInBounds_toArray, List.set_cons_zero, List.set_cons_succ, i64_w, i32_w]
            rfl
          refine pure_ (i := 8) (N := some 66) (v := ?_) (a' := ?_) #[true, true, true, true, true, true, true, true, true, false, false, false, false, false] rfl rfl (by kernel_rfl) (fun _ _ _ h => h) (Or.inl ⟨by rfl, ?_⟩) ?_ ?_
          rotate_left
          · intro w'
            go_simp
            with_reducible rfl
          rotate_left
          · simp only [Act.put, List.setIfInBounds_toArray, List.set_cons_zero, List.set_cons_succ, i64_w, i32_w]
            rfl
          refine pure_ (i := 9) (N := some 67) (v := ?_) (a' := ?_) #[true, true, true, true, true, true, true, true, true, true, false, false, false, false] rfl rfl (by kernel_rfl) (fun _ _ _ h => h) (Or.inl ⟨by rfl, ?_⟩) ?_ ?_
          rotate_left
          · intro w'
            go_simp
            with_reducible rfl
          rotate_left
          · simp only [Act.put, List.setIfInBounds_toArray, List.set_cons_zero, List.set_cons_succ, i64_w, i32_w]
            rfl
          refine one_ (i := 10) (N := some 68) #[true, true, true, true, true, true, true, true, true, true, true, false, false, false] rfl rfl (by kernel_rfl) (by decide) (fun K hK => ?_)
          refine value_ (w1 := ?_) (v := ?_) (by rfl) rfl ?_ ?_
          rotate_left 2
          · go_simp
            constructor
            · rfl
            · rfl
          refine hK.out _ _ ⟨blk_cell (blk_alloc HI2.out.b3 _) 1, blk_cell (blk_alloc HI2.out.b1 _) 1, pw_cell_below (below_alloc (Below.refl _ _) _) C3W.out⟩ (fun hHeld => ?_)
          clear hK K
          refine norm_ (a' := ?_) ?_ ?_
          rotate_left
          · show Act.put _ (some 68) _ = _
            simp only [Act.put, List.setIfInBounds_toArray, List.set_cons_zero, List.set_cons_succ, i64_w, i32_w]
            rfl
          refine one_ (i := 11) (N := some 69) #[true, true, true, true, true, true, true, true, true, true, true, true, false, false] rfl rfl (by kernel_rfl) (by decide) (fun K hK => ?_)
          refine Kd.R_append_step (Kd.spare 3 kI) (w0 := w) (W := w2.drew) w.heap.size (by rfl) (.tmp 59) (.tmp 68) 23 33 (.slice none 0 0) 24 rfl Try.underlying23 info33 rfl (by decide) (by omega) u (xG (l1.take s)) (row, markG) [.slice (some ⟨g2, 0, none⟩) row.length cap2] tru (fun k => some k ≠ u.ownBlock) rfl rfl HM.out (fun _ hk => ⟨trivial, hk⟩) (fun _ _ => trivial) HRA.out HBB.out HBS.out HLL.out ?_
          intro u1 w3 ho3 hb3 hg3 hat3
          obtain ⟨g3, cap3, e3, hg3b, hg3l, _⟩ := Kd.R_form ho3 (by simp)
          rw [List.length_append, List.length_singleton] at e3
          subst e3
          have q1 : w3.cell? ⟨w.heap.size + 1 + 1, 1, none⟩ = some u := blk_cell (HI2.out.drew.grownrG hg3).2.2 1
          have q2 : w3.frozen? ⟨w.heap.size + 1 + 1, 1, none⟩ = false := blk_frozen (HI2.out.drew.grownrG hg3).2.2 1
          refine hK.out _ _ ⟨blk_cell (HI2.out.drew.grownrG hg3).2.2 1, blk_cell (HI2.out.drew.grownrG hg3).1 1, pw_cell_below hb3 G0W.out⟩ (fun hHeld => ?_)
          clear hK K
          refine norm_ (a' := ?_) ?_ ?_
          rotate_left
          · show Act.put _ (some 69) _ = _
            simp only [Act.put, List.setIfInBounds_toArray, List.set_cons_zero, List.set_cons_succ, i64_w, i32_w]
            rfl
          refine pure_ (i := 12) (N := some 70) (v := ?_) (a' := ?_) #[true, true, true, true, true, true, true, true, true, true, true, true, true, false] rfl rfl (by kernel_rfl) (fun _ _ _ h => h) (Or.inl ⟨by rfl, ?_⟩) ?_ ?_
          rotate_left
          · intro w'
            go_simp
            with_reducible rfl
          rotate_left
          · simp only [Act.put, List.setIfInBounds_toArray, List.set_cons_zero, List.set_cons_succ, i64_w, i32_w]
            rfl
          refine last_ (i := 13) (N := none) #[true, true, true, true, true, true, true, true, true, true, true, true, true, true] rfl rfl (by kernel_rfl) (by decide) (fun K hK => ?_)
          refine skip_ (w1 := ?_) (by rfl) rfl ?_ ?_
          rotate_left
          · go_simp
            rfl
          refine hK.out _ _ ?_
          clear hK K
          refine done_ (by kernel_rfl) ?_
          go_wp2_with fail
          go_roundw
          case rel =>
            refine ⟨s + 1, .slice (some ⟨g3, 0, none⟩) ((xG (l1.take s)).length + 1) cap3, by go_num, by omega, ?_⟩
            rw [HSN.out]
            have hx : xG (l1.take s ++ [row]) = xG (l1.take s) ++ [(row, markG)] := by simp [xG]
            rw [hx]
            exact HI2.out.drew.setG hb3 hg3 ho3
          case measure => simp [intOf]; omega
        · have hse : s = l1.length := by omega
          subst hse
          rw [List.take_length] at HI
          clear b30
          have b30' : wr.cell? ⟨w.heap.size + 1 + 1, 0, none⟩ = some uA := blk_cell HI.out.b3 0
          have HSZ := Lib.hid HI.out.below.size
          have HIa : Hid (RI w (.slice A0 l0.length c0) (.slice A1 l1.length c1) uA u (xA l0) (xG l1) (wr.alloc (.cells #[.int .i64 0, .int .i64 (-77)] 80))) := HI.out.later (below_alloc (Below.refl _ _) _)
          have HMA : Hid ((Kd.spare 80 k80).M (wr.alloc (.cells #[.int .i64 0, .int .i64 (-77)] 80)) w.heap.size (fun k => some k ≠ uA.ownBlock) (markA, []) [.slice (some ⟨wr.heap.size, 0, none⟩) 1 1]) :=
            ⟨_, _, rfl, by
              have h := R_one k80 wr w.heap.size 80 tru (fun _ => False) (⟨0, -77⟩ : S80) [.int .i64 0, .int .i64 (-77)] (k80_mkM _ _ _ (⟨0, -77⟩ : S80)) (fun _ h => h.elim) HSZ.out trivial
              exact Kd.R_mono (Kd.R_apart' h (Kd.R_typed HIa.out.rA) (by decide)) (fun k hk => hk.2)⟩
          go_wp2_with (first | ((with_reducible refine gate_builtin (b := .append) (xs := #[.tmp 72, .tmp 75]) rfl ?_); at_builtin; refine Kd.R_append (Kd.spare 80 k80) (w0 := w) (W := wr.alloc (.cells #[.int .i64 0, .int .i64 (-77)] 80)) w.heap.size rfl (.tmp 72) (.tmp 75) 22 77 (.slice none 0 0) 24 rfl Try.underlying22 info77 rfl (by decide) (by omega) uA (xA l0) (markA, []) [.slice (some ⟨wr.heap.size, 0, none⟩) 1 1] tru (fun k => some k ≠ uA.ownBlock) rfl (by simp [Act.eval]) HMA.out (fun _ hk => ⟨trivial, hk⟩) (fun _ _ => trivial) HIa.out.rA HIa.out.below HIa.out.below.size (by simp [xA]; omega) ?_; intro u1 w3 ho3 hb3 hg3 hat3; obtain ⟨g1, cap1, e1, hg1b, hg1l, _⟩ := Kd.R_form ho3 (by simp); rw [List.length_append, List.length_singleton, xA_length] at e1; subst e1; have q1 : w3.cell? ⟨w.heap.size + 1 + 1, 1, none⟩ = some u := blk_cell (HIa.out.grownrA hg3).2.2 1; have HO3 := Lib.hid ho3; have HB3 := Lib.hid hb3; have HG3 := Lib.hid hg3; have HMG : Hid ((Kd.spare 3 kI).M (w3.alloc (.cells #[.int .i64 (-77)] 3)) w.heap.size (fun k => some k ≠ u.ownBlock) (markG, []) [.slice (some ⟨w3.heap.size, 0, none⟩) 1 1]) := mark_row hb3.size (HIa.out.rG' hg3); have HRG := Lib.hid (HIa.out.rG' hg3); clear ho3 hb3 hg3 hat3) | ((with_reducible refine gate_builtin (b := .append) (xs := #[.tmp 78, .tmp 80]) rfl ?_); at_builtin; refine Kd.R_append (Kd.spare 3 kI) (w0 := w) (W := w3.alloc (.cells #[.int .i64 (-77)] 3)) w.heap.size rfl (.tmp 78) (.tmp 80) 23 33 (.slice none 0 0) 24 rfl Try.underlying23 info33 rfl (by decide) (by omega) u (xG l1) (markG, []) [.slice (some ⟨w3.heap.size, 0, none⟩) 1 1] tru (fun k => some k ≠ u.ownBlock) rfl (by simp [Act.eval]) HMG.out (fun _ hk => ⟨trivial, hk⟩) (fun _ _ => trivial) (Kd.R_alloc HRG.out _) (below_alloc HB3.out _) (below_alloc HB3.out _).size (by simp [xG]; omega) ?_; intro u2 w4 ho4 hb4 hg4 hat4; obtain ⟨g2, cap2, e2, hg2b, hg2l, _⟩ := Kd.R_form ho4 (by simp); rw [List.length_append, List.length_singleton, xG_length] at e2; subst e2; have HO4 := Lib.hid ho4; have HB4 := Lib.hid hb4; have HG4 := Lib.hid hg4; clear ho4 hb4 hg4 hat4))
          have K1 := Lib.hid (grow_blk HRG.out HG4.out (HIa.out.grownrA HG3.out).1 (by decide))
          have K2 := Lib.hid (grow_blk HRG.out HG4.out (HIa.out.grownrA HG3.out).2.1 (by decide))
          have HO3' := Lib.hid (Kd.R_over' (Kd.R_alloc HO3.out (.cells #[.int .i64 (-77)] 3)) (Kd.R_typed (Kd.R_alloc HRG.out _)) (by decide) HG4.out)
          have n1 : l0.length + 1 ≤ cap1 := by exact (Kd.R_reads' HO3.out).2.1
          have n2 : l1.length + 1 ≤ cap2 := by exact (Kd.R_reads' HO4.out).2.1
          obtain ⟨i0, hi0, _, _, _⟩ := info_parts info77
          obtain ⟨j0, hj0, _, _, _⟩ := info_parts info33
          have hcut := cut_to (P := Try.prog) 22 77 .i64 Try.underlying22 hi0 (some ⟨g1, 0, none⟩) (l0.length + 1) cap1 (l0.length : Int) (by omega) (by omega) n1
          have hcut' := cut_to (P := Try.prog) 23 33 .i64 Try.underlying23 hj0 (some ⟨g2, 0, none⟩) (l1.length + 1) cap2 (l1.length : Int) (by omega) (by omega) n2
          rw [Int.toNat_natCast] at hcut hcut'
          have k20 : w4.cell? ⟨w.heap.size + 1, 0, none⟩ = some (.slice none 0 0) := blk_cell K2.out 0
          have k21 : w4.cell? ⟨w.heap.size + 1, 1, none⟩ = some (.slice none 0 0) := blk_cell K2.out 1
          have k22 : w4.frozen? ⟨w.heap.size + 1, 0, none⟩ = false := blk_frozen K2.out 0
          have k23 : w4.frozen? ⟨w.heap.size + 1, 1, none⟩ = false := blk_frozen K2.out 1
          clear b10 b30' q1
          refine start_ (n := 12) (S := fun w' => w'.cell? ⟨w.heap.size, 0, none⟩ = some (.slice A0 l0.length c0) ∧ w'.cell? ⟨w.heap.size, 1, none⟩ = some (.slice A1 l1.length c1)) (ds := [11]) #[false, false, false, false, false, false, false, false, false, false, false, false] (by kernel_rfl) rfl rfl ⟨blk_cell K1.out 0, blk_cell K1.out 1⟩ (fun hHeld => ?_)
          refine pure_ (i := 0) (N := some 82) (v := ?_) (a' := ?_) #[true, false, false, false, false, false, false, false, false, false, false, false] rfl rfl (by kernel_rfl) (fun _ _ _ h => h) (Or.inl ⟨by rfl, ?_⟩) ?_ ?_
          rotate_left
          · intro w'
            go_simp
            with_reducible rfl
          rotate_left
          · simp only [Act.put, List.setIfInBounds_toArray, List.set_cons_zero, List.set_cons_succ, i64_w, i32_w]
            rfl
          refine pure_ (i := 1) (N := some 83) (v := ?_) (a' := ?_) #[true, true, false, false, false, false, false, false, false, false, false, false] rfl rfl (by kernel_rfl) (fun _ _ _ h => h) (Or.inl ⟨by rfl, ?_⟩) ?_ ?_
          rotate_left
          · intro w'
            go_simp
            with_reducible rfl
          rotate_left
          · simp only [Act.put, List.setIfInBounds_toArray, List.set_cons_zero, List.set_cons_succ, i64_w, i32_w]
            rfl
          refine pure_ (i := 5) (N := some 87) (v := ?_) (a' := ?_) #[true, true, false, false, false, true, false, false, false, false, false, false] rfl rfl (by kernel_rfl) (fun _ _ _ h => h) (Or.inl ⟨by rfl, ?_⟩) ?_ ?_
          rotate_left
          · intro w'
            go_simp
            with_reducible rfl
          rotate_left
          · simp only [Act.put, List.setIfInBounds_toArray, List.set_cons_zero, List.set_cons_succ, i64_w, i32_w]
            rfl
          refine pure_ (i := 6) (N := some 88) (v := ?_) (a' := ?_) #[true, true, false, false, false, true, true, false, false, false, false, false] rfl rfl (by kernel_rfl) (fun _ _ _ h => h) (Or.inl ⟨by rfl, ?_⟩) ?_ ?_
          rotate_left
          · intro w'
            go_simp
            with_reducible rfl
          rotate_left
          · simp only [Act.put, List.setIfInBounds_toArray, List.set_cons_zero, List.set_cons_succ, i64_w, i32_w]
            rfl
          refine take_ (i := 2) (N := some 84) (v := ?_) (a' := ?_) #[true, true, true, false, false, true, true, false, false, false, false, false] rfl rfl (by kernel_rfl) (fun _ _ _ h => h) (Or.inl ⟨by rfl, ?_⟩) hHeld ?_ ?_
          rotate_left
          · rintro w' ⟨s0, s1⟩
            go_simp
            with_reducible rfl
          rotate_left
          · simp only [Act.put, List.setIfInBounds_toArray, List.set_cons_zero, List.set_cons_succ, i64_w, i32_w]
            rfl
          refine pure_ (i := 3) (N := some 85) (v := ?_) (a' := ?_) #[true, true, true, true, false, true, true, false, false, false, false, false] rfl rfl (by kernel_rfl) (fun _ _ _ h => h) (Or.inl ⟨by rfl, ?_⟩) ?_ ?_
          rotate_left
          · intro w'
            go_simp
            with_reducible rfl
          rotate_left
          · simp only [Act.put, List.setIfInBounds_toArray, List.set_cons_zero, List.set_cons_succ, i64_w, i32_w]
            rfl
          refine pure_ (i := 4) (N := some 86) (v := ?_) (a' := ?_) #[true, true, true, true, true, true, true, false, false, false, false, false] rfl rfl (by kernel_rfl) (fun _ _ _ h => h) (Or.inl ⟨by rfl, ?_⟩) ?_ ?_
          rotate_left
          · intro w'
            go_simp
            with_reducible rfl
          rotate_left
          · simp only [Act.put, List.setIfInBounds_toArray, List.set_cons_zero, List.set_cons_succ, i64_w, i32_w]
            rfl
          refine take_ (i := 7) (N := some 89) (v := ?_) (a' := ?_) #[true, true, true, true, true, true, true, true, false, false, false, false] rfl rfl (by kernel_rfl) (fun _ _ _ h => h) (Or.inl ⟨by rfl, ?_⟩) hHeld ?_ ?_
          rotate_left
          · rintro w' ⟨s0, s1⟩
            go_simp
            with_reducible rfl
          rotate_left
          · simp only [Act.put, List.setIfInBounds_toArray, List.set_cons_zero, List.set_cons_succ, i64_w, i32_w]
            rfl
          refine pure_ (i := 8) (N := some 90) (v := ?_) (a' := ?_) #[true, true, true, true, true, true, true, true, true, false, false, false] rfl rfl (by kernel_rfl) (fun _ _ _ h => h) (Or.inl ⟨by rfl, ?_⟩) ?_ ?_
          rotate_left
          · intro w'
            go_simp
            with_reducible rfl
          rotate_left
          · simp only [Act.put, List.setIfInBounds_toArray, List.set_cons_zero, List.set_cons_succ, i64_w, i32_w]
            rfl
          refine pure_ (i := 9) (N := some 91) (v := ?_) (a' := ?_) #[true, true, true, true, true, true, true, true, true, true, false, false] rfl rfl (by kernel_rfl) (fun _ _ _ h => h) (Or.inl ⟨by rfl, ?_⟩) ?_ ?_
          rotate_left
          · intro w'
            go_simp
            with_reducible rfl
          rotate_left
          · simp only [Act.put, List.setIfInBounds_toArray, List.set_cons_zero, List.set_cons_succ, i64_w, i32_w]
            rfl
          refine pure_ (i := 10) (N := some 92) (v := ?_) (a' := ?_) #[true, true, true, true, true, true, true, true, true, true, true, false] rfl rfl (by kernel_rfl) (fun _ _ _ h => h) (Or.inl ⟨by rfl, ?_⟩) ?_ ?_
          rotate_left
          · intro w'
            go_simp
            with_reducible rfl
          rotate_left
          · simp only [Act.put, List.setIfInBounds_toArray, List.set_cons_zero, List.set_cons_succ, i64_w, i32_w]
            rfl
          refine last_ (i := 11) (N := none) #[true, true, true, true, true, true, true, true, true, true, true, true] rfl rfl (by kernel_rfl) (by decide) (fun K hK => ?_)
          refine skip_ (w1 := ?_) (by rfl) rfl ?_ ?_
          rotate_left
          · go_simp
            rfl
          refine hK.out _ _ ?_
          clear hK K
          refine done_ (by kernel_rfl) ?_
          go_wp2_with fail
          refine bodyPost_ret (results_cell_row rfl _ _ (w.heap.size + 1) 25 #[.slice (some ⟨g1, 0, none⟩) l0.length cap1, .slice (some ⟨g2, 0, none⟩) l1.length cap2] (0, 0) _ rfl (blk_set (blk_set K2.out 0 _) 1 _) Try.underlying25 rfl (by kernel_rfl)) rfl ?_
          refine ⟨g1, cap1, g2, cap2, rfl, ?_, ?_, ?_⟩
          · exact Kd.R_drew (Kd.R_set (Kd.R_set HO3'.out K2.out (by decide) 0 _) (blk_set K2.out 0 _) (by decide) 1 _)
          · exact Kd.R_drew (Kd.R_set (Kd.R_set HO4.out K2.out (by decide) 0 _) (blk_set K2.out 0 _) (by decide) 1 _)
          · exact (below_set (below_set HB4.out (by omega)) (by omega)).drew
end Go.Proofs.Ytcijanmckhlpiaa
