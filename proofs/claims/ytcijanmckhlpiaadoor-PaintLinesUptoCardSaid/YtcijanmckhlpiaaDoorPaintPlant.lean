import Derived.Test.YtcijanmckhlpiaaDoorPaintPlantState
namespace Go.Proofs.YtcijanmckhlpiaaDoor
open Go.RowKit Go.Proofs.YtcijanmckhlpiaaDoorW.PrintWords Go.Proofs.YtcijanmckhlpiaaDoorW.PrintLast Go.Proofs.YtcijanmckhlpiaaDoorW.PrintMore Go.Proofs.YtcijanmckhlpiaaDoor.PPaintLines
set_option linter.unusedVariables false
set_option linter.unusedSimpArgs false
namespace Paint
theorem form_of {W : World} {base : Nat} {A : Option Addr} {n c : Nat} {xs : List Int} (h : kI.R 3 W base tru (.slice A n c) xs) (hn : 0 < n) : ∃ g, A = some ⟨g, 0, none⟩ ∧ base ≤ g ∧ ∃ cells, W.heap[g]? = some (.cells cells 3 (0, 0)) := by
  have h1 := (Kd.R_reads' h).1
  obtain ⟨g, cap, e, h2, _, h3⟩ := Kd.R_form h (by omega)
  injection e with e
  exact ⟨g, e, h2, h3⟩
def osOf (st : List (Nat × Nat)) : List Int := st.reverse.map fun p => (p.1 : Int)
def lsOf (st : List (Nat × Nat)) : List Int := st.reverse.map fun p => (p.2 : Int)
theorem cell_of {W : World} {base g n c : Nat} {xs : List Int} (h : kI.R 3 W base tru (.slice (some ⟨g, 0, none⟩) n c) xs) (i : Nat) (x : Int) (hx : xs[i]? = some x) : W.cell? ⟨g, i, none⟩ = some (.int .i64 x) := by
  have hr := Kd.R_reads' h
  have hi := (List.getElem?_eq_some_iff.1 hx).1
  obtain ⟨ad', e', hc⟩ := hr.2.2.2.2 (by omega)
  injection e' with e'
  subst e'
  obtain ⟨c, _, hk, hcell⟩ := hc i x hx
  have hk' : c = [.int .i64 x] := hk
  subst hk'
  have hq := hcell 0 _ rfl
  rwa [show kI.sz = 1 from rfl, Nat.mul_one, Nat.add_zero, add_plain] at hq
theorem froz_of {W : World} {base g n c : Nat} {xs : List Int} (h : kI.R 3 W base tru (.slice (some ⟨g, 0, none⟩) n c) xs) (hn : 0 < n) (i : Nat) : W.frozen? ⟨g, i, none⟩ = false := by
  obtain ⟨g', e, _, cells, hb⟩ := form_of h hn
  injection e with e
  injection e with e
  subst e
  exact blk_frozen hb i
theorem sz_drew (W : World) (o : Obj) : (W.drew.alloc o).heap.size = W.heap.size + 1 := by
  have h : (W.drew.alloc o).heap = W.heap.push o := rfl
  rw [h, Array.size_push]
theorem C_one {W : World} {b : Nat} {v : Int} (h : W.heap[b]? = some (Obj.cells #[.int .i64 v] 3 (0, 0))) : kI.C W (some ⟨b, 0, none⟩) 1 [v] := by
  refine ⟨rfl, by decide, fun _ => ⟨⟨b, 0, none⟩, rfl, fun j p hj => ?_⟩⟩
  match j with
  | 0 =>
    simp at hj
    subst hj
    refine ⟨[.int .i64 v], rfl, rfl, fun k u hu => ?_⟩
    rw [add_plain]
    refine (blk_cell h _).trans ?_
    match k with
    | 0 => exact hu
    | k + 1 => simp at hu
  | j + 1 => simp at hj
theorem decT_len (st : List (Nat × Nat)) : (decT st).length = st.length := by cases st <;> rfl
theorem osOf_dec (st : List (Nat × Nat)) : osOf (decT st) = osOf st := by cases st <;> simp [osOf, decT]
theorem dec_bound {st : List (Nat × Nat)} (h : ∀ p ∈ st, (p.2 : Int) ≤ 9223372036854775807) : ∀ p ∈ decT st, (p.2 : Int) ≤ 9223372036854775807 := by
  cases st with
  | nil => exact h
  | cons q st =>
    obtain ⟨a, b⟩ := q
    intro p hp
    rcases List.mem_cons.1 hp with rfl | hp
    · have := h (a, b) (by simp)
      simp only at this ⊢; omega
    · exact h p (by simp [hp])
theorem osOf_top (x m : Nat) (st : List (Nat × Nat)) : (osOf ((x, m) :: st)) = osOf st ++ [(x : Int)] := by simp [osOf]
theorem lsOf_top (x m : Nat) (st : List (Nat × Nat)) : (lsOf ((x, m) :: st)) = lsOf st ++ [(m : Int)] := by simp [lsOf]
theorem osOf_len (st : List (Nat × Nat)) : (osOf st).length = st.length := by simp [osOf]
theorem lsOf_len (st : List (Nat × Nat)) : (lsOf st).length = st.length := by simp [lsOf]
theorem lsOf_dec (x m : Nat) (st : List (Nat × Nat)) (hm : 0 < m) : (lsOf ((x, m) :: st)).set st.length ((m : Int) - 1) = lsOf (decT ((x, m) :: st)) := by
  have h : (lsOf st).length = st.length := lsOf_len st
  rw [lsOf_top, decT, lsOf_top, List.set_append_right _ _ (by omega), h, Nat.sub_self]
  simp; omega
set_option maxRecDepth 100000 in
set_option maxHeartbeats 8000000 in
theorem plant_any (A : Option Addr) (c : Nat) (l : List S100) (w : World) (hr : k100.C w A l.length l) (hd : l.length ≤ c) (hz : l.length ≤ 1048576) (hkr : ∀ x ∈ l, x.f5 ≤ 9223372036854775807) :
    Calls Tryd.prog 95 #[.slice A l.length c] w fun e w' => ∃ Ap np cp Ae ce E, e = .returned (.agg #[.slice A l.length c, .slice Ap np cp, .slice Ae l.length ce, .bool (run 0 l)]) ∧ E.length = l.length ∧ l.length ≤ ce ∧ kI.C w' Ae l.length E ∧ (run 0 l = true → E = endsL l) ∧ Below w.heap.size w w' := by
  have HR := Lib.hid hr
  have HKR := Lib.hid hkr
  clear hr hkr
  go_enter Tryd.func95, Tryd.ntmps95
  have tok : True := trivial
  go_wp2_with fail
  have HB_ : Hid (Below w.heap.size w (w.alloc (.cells #[Value.slice none 0 0, Value.slice none 0 0, Value.slice none 0 0, Value.bool false] 221)).drew) := (below_alloc (Below.refl _ w) _).drew
  have HR_ : Hid ((w.alloc (.cells #[Value.slice none 0 0, Value.slice none 0 0, Value.slice none 0 0, Value.bool false] 221)).drew.heap[w.heap.size]? = some (.cells #[Value.slice none 0 0, Value.slice none 0 0, Value.slice none 0 0, Value.bool false] 221 (0, 0))) := blk_new w _
  generalize hw0 : w.alloc (.cells #[Value.slice none 0 0, Value.slice none 0 0, Value.slice none 0 0, Value.bool false] 221) = w0 at *
  clear hw0
  have hln : (List.replicate l.length (0 : Int)).length = l.length := List.length_replicate
  refine start_ (n := 10) (S := fun w' => True) (ds := [9]) #[false, false, false, false, false, false, false, false, false, false] (by kernel_rfl) rfl rfl trivial (fun hHeld => ?_)
  refine pure_ (i := 0) (N := some 8) (v := ?_) (a' := ?_) #[true, false, false, false, false, false, false, false, false, false] rfl rfl (by kernel_rfl) (fun _ _ _ h => h) (Or.inl ⟨by rfl, ?_⟩) ?_ ?_
  rotate_left
  · intro w'
    go_simp
    with_reducible rfl
  rotate_left
  · simp only [Act.put, List.setIfInBounds_toArray, List.set_cons_zero, List.set_cons_succ, i64_w, i32_w]
    rfl
  refine pure_ (i := 1) (N := some 9) (v := ?_) (a' := ?_) #[true, true, false, false, false, false, false, false, false, false] rfl rfl (by kernel_rfl) (fun _ _ _ h => h) (Or.inl ⟨by rfl, ?_⟩) ?_ ?_
  rotate_left
  · intro w'
    go_simp
    with_reducible rfl
  rotate_left
  · simp only [Act.put, List.setIfInBounds_toArray, List.set_cons_zero, List.set_cons_succ, i64_w, i32_w]
    rfl
  refine pure_ (i := 2) (N := some 10) (v := ?_) (a' := ?_) #[true, true, true, false, false, false, false, false, false, false] rfl rfl (by kernel_rfl) (fun _ _ _ h => h) (Or.inl ⟨by rfl, ?_⟩) ?_ ?_
  rotate_left
  · intro w'
    go_simp
    with_reducible rfl
  rotate_left
  · simp only [Act.put, List.setIfInBounds_toArray, List.set_cons_zero, List.set_cons_succ, i64_w, i32_w]
    rfl
  refine pure_ (i := 4) (N := some 12) (v := ?_) (a' := ?_) #[true, true, true, false, true, false, false, false, false, false] rfl rfl (by kernel_rfl) (fun _ _ _ h => h) (Or.inl ⟨by rfl, ?_⟩) ?_ ?_
  rotate_left
  · intro w'
    go_simp
    with_reducible rfl
  rotate_left
  · simp only [Act.put, List.setIfInBounds_toArray, List.set_cons_zero, List.set_cons_succ, i64_w, i32_w]
    rfl
  refine pure_ (i := 5) (N := some 13) (v := ?_) (a' := ?_) #[true, true, true, false, true, true, false, false, false, false] rfl rfl (by kernel_rfl) (fun _ _ _ h => h) (Or.inl ⟨by rfl, ?_⟩) ?_ ?_
  rotate_left
  · intro w'
    go_simp
    with_reducible rfl
  rotate_left
  · simp only [Act.put, List.setIfInBounds_toArray, List.set_cons_zero, List.set_cons_succ, i64_w, i32_w]
    rfl
  refine join_ (σ := Option Addr × Nat × Option Addr × Nat × Nat) 1 #[true, true, true, true, true, true, true, true, true, false] (fun s => [(11, (.slice s.1 l.length s.2.1)), (14, (.slice s.2.2.1 l.length s.2.2.2.1)), (15, .agg #[.slice A l.length c, .slice s.1 l.length s.2.1, .slice s.2.2.1 l.length s.2.2.2.1, .bool false]), (3, .pointer (some ⟨s.2.2.2.2, 0, none⟩))]) (fun s w' => kI.R 3 w' w.heap.size tru (.slice s.1 l.length s.2.1) (List.replicate l.length 0) ∧ kI.R 3 w' w.heap.size tru (.slice s.2.2.1 l.length s.2.2.2.1) (List.replicate l.length 0) ∧ (∀ k, (Value.slice s.1 l.length s.2.1).ownBlock = some k → (Value.slice s.2.2.1 l.length s.2.2.2.1).ownBlock ≠ some k) ∧ w'.heap[s.2.2.2.2]? = some (.cells #[Value.slice none 0 0, Value.slice none 0 0, Value.slice none 0 0, Value.bool false] 221 (0, 0)) ∧ w.heap.size < s.2.2.2.2 ∧ Below w.heap.size w w' ∧ w'.heap[w.heap.size]? = some (.cells #[Value.slice none 0 0, Value.slice none 0 0, Value.slice none 0 0, Value.bool false] 221 (0, 0)) ∧ l.length ≤ s.2.1 ∧ l.length ≤ s.2.2.2.1) ?_ ?_
  rotate_left
  · intro hCont
    refine three_ (i := 3) (j := 6) (k := 8) (Ni := some 11) (Nj := some 14) (Nk := some 3) #[true, true, true, true, true, true, false, false, false, false] #[true, true, true, false, true, true, true, false, false, false] #[true, true, true, false, true, true, false, false, true, false] rfl rfl rfl rfl rfl rfl (by kernel_rfl) (by decide) (by decide) (by decide) (fun K hK => ?_) (fun K hK => ?_) (fun K hK => ?_)
    · skip
      refine Kd.R_make_step kI (w0 := w) (W := w0.drew) w.heap.size 3 (by rfl) rfl 95 (.tmp 10) (.tmp 10) rfl (l.length : Int) rfl rfl Tryd.underlying95 (.int .i64 0) 8 info3 rfl (by decide) (by omega) (0 : Int) (ok := tru) (okp := tru) rfl (fun _ h => h) trivial (by omega) (by rw [Int.toNat_natCast]; omega) HB_.out HB_.out.size ?_
      intro vP X_3 ho hb hg hat
      rw [Int.toNat_natCast] at ho
      obtain ⟨AP, cP, eP, hP, _⟩ := Kd.R_reads ho
      rw [hln] at eP hP
      subst eP
      have HCP : Hid (l.length ≤ cP) := hP
      have P_3 := Lib.hid ho
      have HB_3 := Lib.hid hb
      have HR_3 := Lib.hid (blk_below HR_.out (below_none hg))
      clear ho hb hg hat hP
      refine hK.out _ _ trivial (fun hHeld => ?_)
      clear hK K
      refine norm_ (a' := ?_) ?_ ?_
      rotate_left
      · show Act.put _ (some 11) _ = _
        simp only [Act.put, List.setIfInBounds_toArray, List.set_cons_zero, List.set_cons_succ, i64_w, i32_w]
        rfl
      refine two_ (i := 6) (j := 8) (Ni := some 14) (Nj := some 3) #[true, true, true, true, true, true, true, false, false, false] #[true, true, true, true, true, true, false, false, true, false] rfl rfl rfl rfl (by kernel_rfl) (by decide) (by decide) (fun K hK => ?_) (fun K hK => ?_)
      · skip
        refine Kd.R_make_step kI (w0 := w) (W := X_3) w.heap.size 3 (by rfl) rfl 95 (.tmp 13) (.tmp 13) rfl (l.length : Int) rfl rfl Tryd.underlying95 (.int .i64 0) 8 info3 rfl (by decide) (by omega) (0 : Int) (ok := tru) (okp := tru) rfl (fun _ h => h) trivial (by omega) (by rw [Int.toNat_natCast]; omega) HB_3.out HB_3.out.size ?_
        intro vE X_36 ho hb hg hat
        rw [Int.toNat_natCast] at ho
        obtain ⟨AE, cE, eE, hE, _⟩ := Kd.R_reads ho
        rw [hln] at eE hE
        subst eE
        have HCE : Hid (l.length ≤ cE) := hE
        have E_36 := Lib.hid ho
        have HB_36 := Lib.hid hb
        have HR_36 := Lib.hid (blk_below HR_3.out (below_none hg))
        have P_36 := Lib.hid (Kd.R_below P_3.out (below_none hg))
        have HA := Lib.hid (apart_of (own_lt P_3.out) hat)
        clear ho hb hg hat hE
        refine hK.out _ _ trivial (fun hHeld => ?_)
        clear hK K
        refine norm_ (a' := ?_) ?_ ?_
        rotate_left
        · show Act.put _ (some 14) _ = _
          simp only [Act.put, List.setIfInBounds_toArray, List.set_cons_zero, List.set_cons_succ, i64_w, i32_w]
          rfl
        refine pure_ (i := 7) (N := some 15) (v := ?_) (a' := ?_) #[true, true, true, true, true, true, true, true, false, false] rfl rfl (by kernel_rfl) (fun _ _ _ h => h) (Or.inl ⟨by rfl, ?_⟩) ?_ ?_
        rotate_left
        · intro w'
          go_simp
          with_reducible rfl
        rotate_left
        · simp only [Act.put, List.setIfInBounds_toArray, List.set_cons_zero, List.set_cons_succ, i64_w, i32_w]
          rfl
        refine one_ (i := 8) (N := some 3) #[true, true, true, true, true, true, true, true, true, false] rfl rfl (by kernel_rfl) (by decide) (fun K hK => ?_)
        refine value_ (w1 := ?_) (v := ?_) (by rfl) rfl ?_ ?_
        rotate_left 2
        · go_simp
          constructor
          · rfl
          · rfl
        have HB_368 := Lib.hid (below_alloc HB_36.out (.cells #[Value.slice none 0 0, Value.slice none 0 0, Value.slice none 0 0, Value.bool false] 221))
        have HR_368 := Lib.hid (blk_alloc HR_36.out (.cells #[Value.slice none 0 0, Value.slice none 0 0, Value.slice none 0 0, Value.bool false] 221))
        have F_368 := Lib.hid (blk_new X_36 (.cells #[Value.slice none 0 0, Value.slice none 0 0, Value.slice none 0 0, Value.bool false] 221))
        have P_368 := Lib.hid (Kd.R_alloc P_36.out (.cells #[Value.slice none 0 0, Value.slice none 0 0, Value.slice none 0 0, Value.bool false] 221))
        have E_368 := Lib.hid (Kd.R_alloc E_36.out (.cells #[Value.slice none 0 0, Value.slice none 0 0, Value.slice none 0 0, Value.bool false] 221))
        refine hK.out _ _ trivial (fun hHeld => ?_)
        clear hK K
        refine norm_ (a' := ?_) ?_ ?_
        rotate_left
        · show Act.put _ (some 3) _ = _
          simp only [Act.put, List.setIfInBounds_toArray, List.set_cons_zero, List.set_cons_succ, i64_w, i32_w]
          rfl
        exact norm_ (by simp only [putAll, Act.put, List.setIfInBounds_toArray, List.set_cons_zero, List.set_cons_succ]) (hCont (AP, cP, AE, cE, X_36.heap.size) _ ⟨P_368.out, E_368.out, HA.out, F_368.out, blk_lt HR_36.out, HB_368.out, HR_368.out, HCP.out, HCE.out⟩)
      · skip
        refine value_ (w1 := ?_) (v := ?_) (by rfl) rfl ?_ ?_
        rotate_left 2
        · go_simp
          constructor
          · rfl
          · rfl
        have HB_38 := Lib.hid (below_alloc HB_3.out (.cells #[Value.slice none 0 0, Value.slice none 0 0, Value.slice none 0 0, Value.bool false] 221))
        have HR_38 := Lib.hid (blk_alloc HR_3.out (.cells #[Value.slice none 0 0, Value.slice none 0 0, Value.slice none 0 0, Value.bool false] 221))
        have F_38 := Lib.hid (blk_new X_3 (.cells #[Value.slice none 0 0, Value.slice none 0 0, Value.slice none 0 0, Value.bool false] 221))
        have P_38 := Lib.hid (Kd.R_alloc P_3.out (.cells #[Value.slice none 0 0, Value.slice none 0 0, Value.slice none 0 0, Value.bool false] 221))
        refine hK.out _ _ trivial (fun hHeld => ?_)
        clear hK K
        refine norm_ (a' := ?_) ?_ ?_
        rotate_left
        · show Act.put _ (some 3) _ = _
          simp only [Act.put, List.setIfInBounds_toArray, List.set_cons_zero, List.set_cons_succ, i64_w, i32_w]
          rfl
        refine one_ (i := 6) (N := some 14) #[true, true, true, true, true, true, true, false, true, false] rfl rfl (by kernel_rfl) (by decide) (fun K hK => ?_)
        refine Kd.R_make_step kI (w0 := w) (W := (X_3.alloc (.cells #[Value.slice none 0 0, Value.slice none 0 0, Value.slice none 0 0, Value.bool false] 221))) w.heap.size 3 (by rfl) rfl 95 (.tmp 13) (.tmp 13) rfl (l.length : Int) rfl rfl Tryd.underlying95 (.int .i64 0) 8 info3 rfl (by decide) (by omega) (0 : Int) (ok := tru) (okp := tru) rfl (fun _ h => h) trivial (by omega) (by rw [Int.toNat_natCast]; omega) HB_38.out HB_38.out.size ?_
        intro vE X_386 ho hb hg hat
        rw [Int.toNat_natCast] at ho
        obtain ⟨AE, cE, eE, hE, _⟩ := Kd.R_reads ho
        rw [hln] at eE hE
        subst eE
        have HCE : Hid (l.length ≤ cE) := hE
        have E_386 := Lib.hid ho
        have HB_386 := Lib.hid hb
        have HR_386 := Lib.hid (blk_below HR_38.out (below_none hg))
        have F_386 := Lib.hid (blk_below F_38.out (below_none hg))
        have P_386 := Lib.hid (Kd.R_below P_38.out (below_none hg))
        have HA := Lib.hid (apart_of (own_lt P_38.out) hat)
        clear ho hb hg hat hE
        refine hK.out _ _ trivial (fun hHeld => ?_)
        clear hK K
        refine norm_ (a' := ?_) ?_ ?_
        rotate_left
        · show Act.put _ (some 14) _ = _
          simp only [Act.put, List.setIfInBounds_toArray, List.set_cons_zero, List.set_cons_succ, i64_w, i32_w]
          rfl
        refine pure_ (i := 7) (N := some 15) (v := ?_) (a' := ?_) #[true, true, true, true, true, true, true, true, true, false] rfl rfl (by kernel_rfl) (fun _ _ _ h => h) (Or.inl ⟨by rfl, ?_⟩) ?_ ?_
        rotate_left
        · intro w'
          go_simp
          with_reducible rfl
        rotate_left
        · simp only [Act.put, List.setIfInBounds_toArray, List.set_cons_zero, List.set_cons_succ, i64_w, i32_w]
          rfl
        exact norm_ (by simp only [putAll, Act.put, List.setIfInBounds_toArray, List.set_cons_zero, List.set_cons_succ]) (hCont (AP, cP, AE, cE, X_3.heap.size) _ ⟨P_386.out, E_386.out, HA.out, F_386.out, blk_lt HR_3.out, HB_386.out, HR_386.out, HCP.out, HCE.out⟩)
    · skip
      refine Kd.R_make_step kI (w0 := w) (W := w0.drew) w.heap.size 3 (by rfl) rfl 95 (.tmp 13) (.tmp 13) rfl (l.length : Int) rfl rfl Tryd.underlying95 (.int .i64 0) 8 info3 rfl (by decide) (by omega) (0 : Int) (ok := tru) (okp := tru) rfl (fun _ h => h) trivial (by omega) (by rw [Int.toNat_natCast]; omega) HB_.out HB_.out.size ?_
      intro vE X_6 ho hb hg hat
      rw [Int.toNat_natCast] at ho
      obtain ⟨AE, cE, eE, hE, _⟩ := Kd.R_reads ho
      rw [hln] at eE hE
      subst eE
      have HCE : Hid (l.length ≤ cE) := hE
      have E_6 := Lib.hid ho
      have HB_6 := Lib.hid hb
      have HR_6 := Lib.hid (blk_below HR_.out (below_none hg))
      clear ho hb hg hat hE
      refine hK.out _ _ trivial (fun hHeld => ?_)
      clear hK K
      refine norm_ (a' := ?_) ?_ ?_
      rotate_left
      · show Act.put _ (some 14) _ = _
        simp only [Act.put, List.setIfInBounds_toArray, List.set_cons_zero, List.set_cons_succ, i64_w, i32_w]
        rfl
      refine two_ (i := 3) (j := 8) (Ni := some 11) (Nj := some 3) #[true, true, true, true, true, true, true, false, false, false] #[true, true, true, false, true, true, true, false, true, false] rfl rfl rfl rfl (by kernel_rfl) (by decide) (by decide) (fun K hK => ?_) (fun K hK => ?_)
      · skip
        refine Kd.R_make_step kI (w0 := w) (W := X_6) w.heap.size 3 (by rfl) rfl 95 (.tmp 10) (.tmp 10) rfl (l.length : Int) rfl rfl Tryd.underlying95 (.int .i64 0) 8 info3 rfl (by decide) (by omega) (0 : Int) (ok := tru) (okp := tru) rfl (fun _ h => h) trivial (by omega) (by rw [Int.toNat_natCast]; omega) HB_6.out HB_6.out.size ?_
        intro vP X_63 ho hb hg hat
        rw [Int.toNat_natCast] at ho
        obtain ⟨AP, cP, eP, hP, _⟩ := Kd.R_reads ho
        rw [hln] at eP hP
        subst eP
        have HCP : Hid (l.length ≤ cP) := hP
        have P_63 := Lib.hid ho
        have HB_63 := Lib.hid hb
        have HR_63 := Lib.hid (blk_below HR_6.out (below_none hg))
        have E_63 := Lib.hid (Kd.R_below E_6.out (below_none hg))
        have HA := Lib.hid (apart_symm (apart_of (own_lt E_6.out) hat))
        clear ho hb hg hat hP
        refine hK.out _ _ trivial (fun hHeld => ?_)
        clear hK K
        refine norm_ (a' := ?_) ?_ ?_
        rotate_left
        · show Act.put _ (some 11) _ = _
          simp only [Act.put, List.setIfInBounds_toArray, List.set_cons_zero, List.set_cons_succ, i64_w, i32_w]
          rfl
        refine pure_ (i := 7) (N := some 15) (v := ?_) (a' := ?_) #[true, true, true, true, true, true, true, true, false, false] rfl rfl (by kernel_rfl) (fun _ _ _ h => h) (Or.inl ⟨by rfl, ?_⟩) ?_ ?_
        rotate_left
        · intro w'
          go_simp
          with_reducible rfl
        rotate_left
        · simp only [Act.put, List.setIfInBounds_toArray, List.set_cons_zero, List.set_cons_succ, i64_w, i32_w]
          rfl
        refine one_ (i := 8) (N := some 3) #[true, true, true, true, true, true, true, true, true, false] rfl rfl (by kernel_rfl) (by decide) (fun K hK => ?_)
        refine value_ (w1 := ?_) (v := ?_) (by rfl) rfl ?_ ?_
        rotate_left 2
        · go_simp
          constructor
          · rfl
          · rfl
        have HB_638 := Lib.hid (below_alloc HB_63.out (.cells #[Value.slice none 0 0, Value.slice none 0 0, Value.slice none 0 0, Value.bool false] 221))
        have HR_638 := Lib.hid (blk_alloc HR_63.out (.cells #[Value.slice none 0 0, Value.slice none 0 0, Value.slice none 0 0, Value.bool false] 221))
        have F_638 := Lib.hid (blk_new X_63 (.cells #[Value.slice none 0 0, Value.slice none 0 0, Value.slice none 0 0, Value.bool false] 221))
        have P_638 := Lib.hid (Kd.R_alloc P_63.out (.cells #[Value.slice none 0 0, Value.slice none 0 0, Value.slice none 0 0, Value.bool false] 221))
        have E_638 := Lib.hid (Kd.R_alloc E_63.out (.cells #[Value.slice none 0 0, Value.slice none 0 0, Value.slice none 0 0, Value.bool false] 221))
        refine hK.out _ _ trivial (fun hHeld => ?_)
        clear hK K
        refine norm_ (a' := ?_) ?_ ?_
        rotate_left
        · show Act.put _ (some 3) _ = _
          simp only [Act.put, List.setIfInBounds_toArray, List.set_cons_zero, List.set_cons_succ, i64_w, i32_w]
          rfl
        exact norm_ (by simp only [putAll, Act.put, List.setIfInBounds_toArray, List.set_cons_zero, List.set_cons_succ]) (hCont (AP, cP, AE, cE, X_63.heap.size) _ ⟨P_638.out, E_638.out, HA.out, F_638.out, blk_lt HR_63.out, HB_638.out, HR_638.out, HCP.out, HCE.out⟩)
      · skip
        refine value_ (w1 := ?_) (v := ?_) (by rfl) rfl ?_ ?_
        rotate_left 2
        · go_simp
          constructor
          · rfl
          · rfl
        have HB_68 := Lib.hid (below_alloc HB_6.out (.cells #[Value.slice none 0 0, Value.slice none 0 0, Value.slice none 0 0, Value.bool false] 221))
        have HR_68 := Lib.hid (blk_alloc HR_6.out (.cells #[Value.slice none 0 0, Value.slice none 0 0, Value.slice none 0 0, Value.bool false] 221))
        have F_68 := Lib.hid (blk_new X_6 (.cells #[Value.slice none 0 0, Value.slice none 0 0, Value.slice none 0 0, Value.bool false] 221))
        have E_68 := Lib.hid (Kd.R_alloc E_6.out (.cells #[Value.slice none 0 0, Value.slice none 0 0, Value.slice none 0 0, Value.bool false] 221))
        refine hK.out _ _ trivial (fun hHeld => ?_)
        clear hK K
        refine norm_ (a' := ?_) ?_ ?_
        rotate_left
        · show Act.put _ (some 3) _ = _
          simp only [Act.put, List.setIfInBounds_toArray, List.set_cons_zero, List.set_cons_succ, i64_w, i32_w]
          rfl
        refine one_ (i := 3) (N := some 11) #[true, true, true, true, true, true, true, false, true, false] rfl rfl (by kernel_rfl) (by decide) (fun K hK => ?_)
        refine Kd.R_make_step kI (w0 := w) (W := (X_6.alloc (.cells #[Value.slice none 0 0, Value.slice none 0 0, Value.slice none 0 0, Value.bool false] 221))) w.heap.size 3 (by rfl) rfl 95 (.tmp 10) (.tmp 10) rfl (l.length : Int) rfl rfl Tryd.underlying95 (.int .i64 0) 8 info3 rfl (by decide) (by omega) (0 : Int) (ok := tru) (okp := tru) rfl (fun _ h => h) trivial (by omega) (by rw [Int.toNat_natCast]; omega) HB_68.out HB_68.out.size ?_
        intro vP X_683 ho hb hg hat
        rw [Int.toNat_natCast] at ho
        obtain ⟨AP, cP, eP, hP, _⟩ := Kd.R_reads ho
        rw [hln] at eP hP
        subst eP
        have HCP : Hid (l.length ≤ cP) := hP
        have P_683 := Lib.hid ho
        have HB_683 := Lib.hid hb
        have HR_683 := Lib.hid (blk_below HR_68.out (below_none hg))
        have F_683 := Lib.hid (blk_below F_68.out (below_none hg))
        have E_683 := Lib.hid (Kd.R_below E_68.out (below_none hg))
        have HA := Lib.hid (apart_symm (apart_of (own_lt E_68.out) hat))
        clear ho hb hg hat hP
        refine hK.out _ _ trivial (fun hHeld => ?_)
        clear hK K
        refine norm_ (a' := ?_) ?_ ?_
        rotate_left
        · show Act.put _ (some 11) _ = _
          simp only [Act.put, List.setIfInBounds_toArray, List.set_cons_zero, List.set_cons_succ, i64_w, i32_w]
          rfl
        refine pure_ (i := 7) (N := some 15) (v := ?_) (a' := ?_) #[true, true, true, true, true, true, true, true, true, false] rfl rfl (by kernel_rfl) (fun _ _ _ h => h) (Or.inl ⟨by rfl, ?_⟩) ?_ ?_
        rotate_left
        · intro w'
          go_simp
          with_reducible rfl
        rotate_left
        · simp only [Act.put, List.setIfInBounds_toArray, List.set_cons_zero, List.set_cons_succ, i64_w, i32_w]
          rfl
        exact norm_ (by simp only [putAll, Act.put, List.setIfInBounds_toArray, List.set_cons_zero, List.set_cons_succ]) (hCont (AP, cP, AE, cE, X_6.heap.size) _ ⟨P_683.out, E_683.out, HA.out, F_683.out, blk_lt HR_6.out, HB_683.out, HR_683.out, HCP.out, HCE.out⟩)
    · skip
      refine value_ (w1 := ?_) (v := ?_) (by rfl) rfl ?_ ?_
      rotate_left 2
      · go_simp
        constructor
        · rfl
        · rfl
      have HB_8 := Lib.hid (below_alloc HB_.out (.cells #[Value.slice none 0 0, Value.slice none 0 0, Value.slice none 0 0, Value.bool false] 221))
      have HR_8 := Lib.hid (blk_alloc HR_.out (.cells #[Value.slice none 0 0, Value.slice none 0 0, Value.slice none 0 0, Value.bool false] 221))
      have F_8 := Lib.hid (blk_new w0.drew (.cells #[Value.slice none 0 0, Value.slice none 0 0, Value.slice none 0 0, Value.bool false] 221))
      refine hK.out _ _ trivial (fun hHeld => ?_)
      clear hK K
      refine norm_ (a' := ?_) ?_ ?_
      rotate_left
      · show Act.put _ (some 3) _ = _
        simp only [Act.put, List.setIfInBounds_toArray, List.set_cons_zero, List.set_cons_succ, i64_w, i32_w]
        rfl
      refine two_ (i := 3) (j := 6) (Ni := some 11) (Nj := some 14) #[true, true, true, true, true, true, false, false, true, false] #[true, true, true, false, true, true, true, false, true, false] rfl rfl rfl rfl (by kernel_rfl) (by decide) (by decide) (fun K hK => ?_) (fun K hK => ?_)
      · skip
        refine Kd.R_make_step kI (w0 := w) (W := (w0.drew.alloc (.cells #[Value.slice none 0 0, Value.slice none 0 0, Value.slice none 0 0, Value.bool false] 221))) w.heap.size 3 (by rfl) rfl 95 (.tmp 10) (.tmp 10) rfl (l.length : Int) rfl rfl Tryd.underlying95 (.int .i64 0) 8 info3 rfl (by decide) (by omega) (0 : Int) (ok := tru) (okp := tru) rfl (fun _ h => h) trivial (by omega) (by rw [Int.toNat_natCast]; omega) HB_8.out HB_8.out.size ?_
        intro vP X_83 ho hb hg hat
        rw [Int.toNat_natCast] at ho
        obtain ⟨AP, cP, eP, hP, _⟩ := Kd.R_reads ho
        rw [hln] at eP hP
        subst eP
        have HCP : Hid (l.length ≤ cP) := hP
        have P_83 := Lib.hid ho
        have HB_83 := Lib.hid hb
        have HR_83 := Lib.hid (blk_below HR_8.out (below_none hg))
        have F_83 := Lib.hid (blk_below F_8.out (below_none hg))
        clear ho hb hg hat hP
        refine hK.out _ _ trivial (fun hHeld => ?_)
        clear hK K
        refine norm_ (a' := ?_) ?_ ?_
        rotate_left
        · show Act.put _ (some 11) _ = _
          simp only [Act.put, List.setIfInBounds_toArray, List.set_cons_zero, List.set_cons_succ, i64_w, i32_w]
          rfl
        refine one_ (i := 6) (N := some 14) #[true, true, true, true, true, true, true, false, true, false] rfl rfl (by kernel_rfl) (by decide) (fun K hK => ?_)
        refine Kd.R_make_step kI (w0 := w) (W := X_83) w.heap.size 3 (by rfl) rfl 95 (.tmp 13) (.tmp 13) rfl (l.length : Int) rfl rfl Tryd.underlying95 (.int .i64 0) 8 info3 rfl (by decide) (by omega) (0 : Int) (ok := tru) (okp := tru) rfl (fun _ h => h) trivial (by omega) (by rw [Int.toNat_natCast]; omega) HB_83.out HB_83.out.size ?_
        intro vE X_836 ho hb hg hat
        rw [Int.toNat_natCast] at ho
        obtain ⟨AE, cE, eE, hE, _⟩ := Kd.R_reads ho
        rw [hln] at eE hE
        subst eE
        have HCE : Hid (l.length ≤ cE) := hE
        have E_836 := Lib.hid ho
        have HB_836 := Lib.hid hb
        have HR_836 := Lib.hid (blk_below HR_83.out (below_none hg))
        have F_836 := Lib.hid (blk_below F_83.out (below_none hg))
        have P_836 := Lib.hid (Kd.R_below P_83.out (below_none hg))
        have HA := Lib.hid (apart_of (own_lt P_83.out) hat)
        clear ho hb hg hat hE
        refine hK.out _ _ trivial (fun hHeld => ?_)
        clear hK K
        refine norm_ (a' := ?_) ?_ ?_
        rotate_left
        · show Act.put _ (some 14) _ = _
          simp only [Act.put, List.setIfInBounds_toArray, List.set_cons_zero, List.set_cons_succ, i64_w, i32_w]
          rfl
        refine pure_ (i := 7) (N := some 15) (v := ?_) (a' := ?_) #[true, true, true, true, true, true, true, true, true, false] rfl rfl (by kernel_rfl) (fun _ _ _ h => h) (Or.inl ⟨by rfl, ?_⟩) ?_ ?_
        rotate_left
        · intro w'
          go_simp
          with_reducible rfl
        rotate_left
        · simp only [Act.put, List.setIfInBounds_toArray, List.set_cons_zero, List.set_cons_succ, i64_w, i32_w]
          rfl
        exact norm_ (by simp only [putAll, Act.put, List.setIfInBounds_toArray, List.set_cons_zero, List.set_cons_succ]) (hCont (AP, cP, AE, cE, w0.heap.size) _ ⟨P_836.out, E_836.out, HA.out, F_836.out, blk_lt HR_.out, HB_836.out, HR_836.out, HCP.out, HCE.out⟩)
      · skip
        refine Kd.R_make_step kI (w0 := w) (W := (w0.drew.alloc (.cells #[Value.slice none 0 0, Value.slice none 0 0, Value.slice none 0 0, Value.bool false] 221))) w.heap.size 3 (by rfl) rfl 95 (.tmp 13) (.tmp 13) rfl (l.length : Int) rfl rfl Tryd.underlying95 (.int .i64 0) 8 info3 rfl (by decide) (by omega) (0 : Int) (ok := tru) (okp := tru) rfl (fun _ h => h) trivial (by omega) (by rw [Int.toNat_natCast]; omega) HB_8.out HB_8.out.size ?_
        intro vE X_86 ho hb hg hat
        rw [Int.toNat_natCast] at ho
        obtain ⟨AE, cE, eE, hE, _⟩ := Kd.R_reads ho
        rw [hln] at eE hE
        subst eE
        have HCE : Hid (l.length ≤ cE) := hE
        have E_86 := Lib.hid ho
        have HB_86 := Lib.hid hb
        have HR_86 := Lib.hid (blk_below HR_8.out (below_none hg))
        have F_86 := Lib.hid (blk_below F_8.out (below_none hg))
        clear ho hb hg hat hE
        refine hK.out _ _ trivial (fun hHeld => ?_)
        clear hK K
        refine norm_ (a' := ?_) ?_ ?_
        rotate_left
        · show Act.put _ (some 14) _ = _
          simp only [Act.put, List.setIfInBounds_toArray, List.set_cons_zero, List.set_cons_succ, i64_w, i32_w]
          rfl
        refine one_ (i := 3) (N := some 11) #[true, true, true, true, true, true, true, false, true, false] rfl rfl (by kernel_rfl) (by decide) (fun K hK => ?_)
        refine Kd.R_make_step kI (w0 := w) (W := X_86) w.heap.size 3 (by rfl) rfl 95 (.tmp 10) (.tmp 10) rfl (l.length : Int) rfl rfl Tryd.underlying95 (.int .i64 0) 8 info3 rfl (by decide) (by omega) (0 : Int) (ok := tru) (okp := tru) rfl (fun _ h => h) trivial (by omega) (by rw [Int.toNat_natCast]; omega) HB_86.out HB_86.out.size ?_
        intro vP X_863 ho hb hg hat
        rw [Int.toNat_natCast] at ho
        obtain ⟨AP, cP, eP, hP, _⟩ := Kd.R_reads ho
        rw [hln] at eP hP
        subst eP
        have HCP : Hid (l.length ≤ cP) := hP
        have P_863 := Lib.hid ho
        have HB_863 := Lib.hid hb
        have HR_863 := Lib.hid (blk_below HR_86.out (below_none hg))
        have F_863 := Lib.hid (blk_below F_86.out (below_none hg))
        have E_863 := Lib.hid (Kd.R_below E_86.out (below_none hg))
        have HA := Lib.hid (apart_symm (apart_of (own_lt E_86.out) hat))
        clear ho hb hg hat hP
        refine hK.out _ _ trivial (fun hHeld => ?_)
        clear hK K
        refine norm_ (a' := ?_) ?_ ?_
        rotate_left
        · show Act.put _ (some 11) _ = _
          simp only [Act.put, List.setIfInBounds_toArray, List.set_cons_zero, List.set_cons_succ, i64_w, i32_w]
          rfl
        refine pure_ (i := 7) (N := some 15) (v := ?_) (a' := ?_) #[true, true, true, true, true, true, true, true, true, false] rfl rfl (by kernel_rfl) (fun _ _ _ h => h) (Or.inl ⟨by rfl, ?_⟩) ?_ ?_
        rotate_left
        · intro w'
          go_simp
          with_reducible rfl
        rotate_left
        · simp only [Act.put, List.setIfInBounds_toArray, List.set_cons_zero, List.set_cons_succ, i64_w, i32_w]
          rfl
        exact norm_ (by simp only [putAll, Act.put, List.setIfInBounds_toArray, List.set_cons_zero, List.set_cons_succ]) (hCont (AP, cP, AE, cE, w0.heap.size) _ ⟨P_863.out, E_863.out, HA.out, F_863.out, blk_lt HR_.out, HB_863.out, HR_863.out, HCP.out, HCE.out⟩)
  rintro ⟨Ap, cp, Ae, ce, fb⟩ V ⟨hP, hE, hA, hF, hfb, hB, hR, hcp, hce⟩
  simp only at hP hE hA hF hfb hB hR hcp hce
  have hHeld : True := trivial
  have HP := Lib.hid hP
  have HE := Lib.hid hE
  have HA := Lib.hid hA
  have HF := Lib.hid hF
  have HFB : Hid (w.heap.size < fb) := hfb
  have HB := Lib.hid hB
  have HRB := Lib.hid hR
  have HCP : Hid (l.length ≤ cp) := hcp
  have HCE : Hid (l.length ≤ ce) := hce
  clear hP hE hA hF hfb hB hR hcp hce
  refine norm_ (a' := ?_) ?_ ?_
  rotate_left
  · simp only [putAll, Act.put, List.setIfInBounds_toArray, List.set_cons_zero, List.set_cons_succ]
    rfl
  refine last_ (i := 9) (N := none) #[true, true, true, true, true, true, true, true, true, true] rfl rfl (by kernel_rfl) (by decide) (fun K hK => ?_)
  have q0 : V.cell? ⟨fb, 0, none⟩ = some (.slice none 0 0) := blk_cell HF.out 0
  have r0 : V.frozen? ⟨fb, 0, none⟩ = false := blk_frozen HF.out 0
  have q1 : V.cell? ⟨fb, 1, none⟩ = some (.slice none 0 0) := blk_cell HF.out 1
  have r1 : V.frozen? ⟨fb, 1, none⟩ = false := blk_frozen HF.out 1
  have q2 : V.cell? ⟨fb, 2, none⟩ = some (.slice none 0 0) := blk_cell HF.out 2
  have r2 : V.frozen? ⟨fb, 2, none⟩ = false := blk_frozen HF.out 2
  have q3 : V.cell? ⟨fb, 3, none⟩ = some (.bool false) := blk_cell HF.out 3
  have r3 : V.frozen? ⟨fb, 3, none⟩ = false := blk_frozen HF.out 3
  refine skip_ (w1 := ?_) (by rfl) rfl ?_ ?_
  rotate_left
  · go_simp
    rfl
  refine hK.out _ _ ?_
  clear hK K
  refine done_ (by kernel_rfl) ?_
  have HPS : Hid (PS w fb #[Value.slice A l.length c, Value.slice Ap l.length cp, Value.slice Ae l.length ce, Value.bool false] (.slice Ap l.length cp) (.slice Ae l.length ce) (.slice none 0 0) (.slice none 0 0) (List.replicate l.length 0) (List.replicate l.length 0) [] [] ((((V.setCell ⟨fb, 0, none⟩ (.slice A l.length c)).setCell ⟨fb, 1, none⟩ (.slice Ap l.length cp)).setCell ⟨fb, 2, none⟩ (.slice Ae l.length ce)).setCell ⟨fb, 3, none⟩ (.bool false))) := by
    have hne : w.heap.size ≠ fb := by have := HFB.out; omega
    have hge : w.heap.size ≤ fb := by have := HFB.out; omega
    exact ⟨(below_set (below_set (below_set (below_set HB.out hge) hge) hge) hge), (blk_far (blk_far (blk_far (blk_far HRB.out (p := ⟨fb, 0, none⟩) hne (.slice A l.length c)) (p := ⟨fb, 1, none⟩) hne (.slice Ap l.length cp)) (p := ⟨fb, 2, none⟩) hne (.slice Ae l.length ce)) (p := ⟨fb, 3, none⟩) hne (.bool false)), (blk_set (blk_set (blk_set (blk_set HF.out 0 (.slice A l.length c)) 1 (.slice Ap l.length cp)) 2 (.slice Ae l.length ce)) 3 (.bool false)), (Kd.R_set (Kd.R_set (Kd.R_set (Kd.R_set HP.out HF.out (by decide) 0 (.slice A l.length c)) (blk_set HF.out 0 (.slice A l.length c)) (by decide) 1 (.slice Ap l.length cp)) (blk_set (blk_set HF.out 0 (.slice A l.length c)) 1 (.slice Ap l.length cp)) (by decide) 2 (.slice Ae l.length ce)) (blk_set (blk_set (blk_set HF.out 0 (.slice A l.length c)) 1 (.slice Ap l.length cp)) 2 (.slice Ae l.length ce)) (by decide) 3 (.bool false)), (Kd.R_set (Kd.R_set (Kd.R_set (Kd.R_set HE.out HF.out (by decide) 0 (.slice A l.length c)) (blk_set HF.out 0 (.slice A l.length c)) (by decide) 1 (.slice Ap l.length cp)) (blk_set (blk_set HF.out 0 (.slice A l.length c)) 1 (.slice Ap l.length cp)) (by decide) 2 (.slice Ae l.length ce)) (blk_set (blk_set (blk_set HF.out 0 (.slice A l.length c)) 1 (.slice Ap l.length cp)) 2 (.slice Ae l.length ce)) (by decide) 3 (.bool false)), Kd.R_nil _ _ _ _ _, Kd.R_nil _ _ _ _ _, HA.out, fun k _ e => (by simp [Value.ownBlock] at e), fun k _ e => (by simp [Value.ownBlock] at e), fun k _ e => (by simp [Value.ownBlock] at e), fun k _ e => (by simp [Value.ownBlock] at e), fun k h => (by simp [Value.ownBlock] at h)⟩
  generalize hV4 : ((((V.setCell ⟨fb, 0, none⟩ (.slice A l.length c)).setCell ⟨fb, 1, none⟩ (.slice Ap l.length cp)).setCell ⟨fb, 2, none⟩ (.slice Ae l.length ce)).setCell ⟨fb, 3, none⟩ (.bool false)) = V4 at *
  clear hV4 HP HE HA HF HB HRB q0 r0 q1 r1 q2 r2 q3 r3
  go_wp2_with fail
  go_loopw [4, 5, 18] (fun v4 v5 v18 w' => ∃ (i : Nat) (st : List (Nat × Nat)) (lp E : List Int), v18 = .int .i64 i ∧ i ≤ l.length ∧ lp.length = l.length ∧ st.length ≤ i ∧ Hid (∀ p ∈ st, (p.2 : Int) ≤ 9223372036854775807) ∧ Hid (PS w fb #[Value.slice A l.length c, Value.slice Ap l.length cp, Value.slice Ae l.length ce, Value.bool false] (.slice Ap l.length cp) (.slice Ae l.length ce) v4 v5 lp E (osOf st) (lsOf st) w') ∧ Hid (HeadSt l i st E)) (fun _ _ v18 _ => l.length - (intOf v18).toNat)
  case atStart => exact ⟨0, [], _, _, rfl, Nat.zero_le _, hln, Nat.le_refl _, (fun p hp => by cases hp), HPS, HeadSt.start l _ hln⟩
  case round =>
    try clear HPS
    obtain ⟨i, st, lp, E, rfl, hi, hlp, hsl, HM, HI, HS⟩ := hrel
    by_cases hlt : i < l.length
    · obtain ⟨ad, rfl, g0, g1, g2, g3, g4, g5, g6⟩ := at_T100 (Kd.C_below HR.out HI.out.below) (i : Int) (by omega) (by omega)
      rw [rdT_get l i hlt] at g0 g1 g2 g3 g4 g5 g6
      rw [Int.toNat_natCast] at g0 g1 g2 g3 g4 g5 g6
      have HX := Lib.hid (show ∃ x, x = l[i] from ⟨_, rfl⟩)
      obtain ⟨x, hx⟩ := HX.out
      rw [← hx] at g0 g1 g2 g3 g4 g5 g6
      have HXE := Lib.hid hx
      clear hx HX
      obtain ⟨gp, rfl, hgp, hgpc⟩ := form_of HI.out.rp (by omega)
      have j1 : (0 : Int) ≤ (i : Int) := Int.natCast_nonneg _
      have j2 : (i : Int) < (l.length : Int) := by omega
      have HGP : Hid (w.heap.size ≤ gp) := hgp
      have HI1 := Lib.hid (HI.out.later (below_alloc (Below.refl _ wr) (.cells #[.string x.f0, .bool x.f1, .string x.f2, .int .i64 x.f3, .int .i64 x.f4, .int .i64 x.f5, .int .i64 x.f6] 100)))
      have HN := Lib.hid (blk_new wr (.cells #[.string x.f0, .bool x.f1, .string x.f2, .int .i64 x.f3, .int .i64 x.f4, .int .i64 x.f5, .int .i64 x.f6] 100))
      have u1 : (wr.alloc (.cells #[.string x.f0, .bool x.f1, .string x.f2, .int .i64 x.f3, .int .i64 x.f4, .int .i64 x.f5, .int .i64 x.f6] 100)).cell? ⟨fb, 1, none⟩ = some (.slice (some ⟨gp, 0, none⟩) l.length cp) := blk_cell HI1.out.b 1
      obtain ⟨pcs, hpcs⟩ := hgpc
      have HGC1 := Lib.hid (blk_alloc hpcs (.cells #[.string x.f0, .bool x.f1, .string x.f2, .int .i64 x.f3, .int .i64 x.f4, .int .i64 x.f5, .int .i64 x.f6] 100))
      clear hgp hpcs
      obtain ⟨pv, hpv⟩ : ∃ pv, lp[i]? = some pv := ⟨_, List.getElem?_eq_getElem (by omega)⟩
      have u2 := cell_of HI1.out.rp i pv hpv
      have u3 := froz_of HI1.out.rp (by omega) i
      have HI2 := Lib.hid (HI1.out.setP HGP.out i (-1))
      have HN2 := Lib.hid (blk_far HN.out (p := ⟨gp, i, none⟩) (blk_ne HN.out HGC1.out (by decide)) (.int .i64 (-1)))
      obtain ⟨Ao, co, hvo, hco, _⟩ := Kd.R_reads HI.out.ro
      rw [osOf_len] at hvo hco
      subst hvo
      obtain ⟨Al, cl, hvl, hcl, _⟩ := Kd.R_reads HI.out.rl
      rw [lsOf_len] at hvl hcl
      subst hvl
      clear hpv
      cases st with
      | nil =>
        have k5 : ((wr.alloc (.cells #[.string x.f0, .bool x.f1, .string x.f2, .int .i64 x.f3, .int .i64 x.f4, .int .i64 x.f5, .int .i64 x.f6] 100)).setCell ⟨gp, i, none⟩ (.int .i64 (-1))).cell? ⟨wr.heap.size, 5, none⟩ = some (.int .i64 x.f5) := blk_cell HN2.out 5
        by_cases hk : x.f5 < 0
        · have hkb : decide (x.f5 < 0) = true := decide_eq_true hk
          have f0 : ((wr.alloc (.cells #[.string x.f0, .bool x.f1, .string x.f2, .int .i64 x.f3, .int .i64 x.f4, .int .i64 x.f5, .int .i64 x.f6] 100)).setCell ⟨gp, i, none⟩ (.int .i64 (-1))).cell? ⟨fb, 0, none⟩ = some (.slice (some ad) l.length c) := blk_cell HI2.out.b 0
          have f1 : ((wr.alloc (.cells #[.string x.f0, .bool x.f1, .string x.f2, .int .i64 x.f3, .int .i64 x.f4, .int .i64 x.f5, .int .i64 x.f6] 100)).setCell ⟨gp, i, none⟩ (.int .i64 (-1))).cell? ⟨fb, 1, none⟩ = some (.slice (some ⟨gp, 0, none⟩) l.length cp) := blk_cell HI2.out.b 1
          have f2 : ((wr.alloc (.cells #[.string x.f0, .bool x.f1, .string x.f2, .int .i64 x.f3, .int .i64 x.f4, .int .i64 x.f5, .int .i64 x.f6] 100)).setCell ⟨gp, i, none⟩ (.int .i64 (-1))).cell? ⟨fb, 2, none⟩ = some (.slice Ae l.length ce) := blk_cell HI2.out.b 2
          have f3 : ((wr.alloc (.cells #[.string x.f0, .bool x.f1, .string x.f2, .int .i64 x.f3, .int .i64 x.f4, .int .i64 x.f5, .int .i64 x.f6] 100)).setCell ⟨gp, i, none⟩ (.int .i64 (-1))).cell? ⟨fb, 3, none⟩ = some (.bool false) := blk_cell HI2.out.b 3
          have e0 : ((wr.alloc (.cells #[.string x.f0, .bool x.f1, .string x.f2, .int .i64 x.f3, .int .i64 x.f4, .int .i64 x.f5, .int .i64 x.f6] 100)).setCell ⟨gp, i, none⟩ (.int .i64 (-1))).cell? ⟨w.heap.size, 0, none⟩ = some (.slice none 0 0) := blk_cell HI2.out.rb 0
          have r0 : ((wr.alloc (.cells #[.string x.f0, .bool x.f1, .string x.f2, .int .i64 x.f3, .int .i64 x.f4, .int .i64 x.f5, .int .i64 x.f6] 100)).setCell ⟨gp, i, none⟩ (.int .i64 (-1))).frozen? ⟨w.heap.size, 0, none⟩ = false := blk_frozen HI2.out.rb 0
          have e1 : ((wr.alloc (.cells #[.string x.f0, .bool x.f1, .string x.f2, .int .i64 x.f3, .int .i64 x.f4, .int .i64 x.f5, .int .i64 x.f6] 100)).setCell ⟨gp, i, none⟩ (.int .i64 (-1))).cell? ⟨w.heap.size, 1, none⟩ = some (.slice none 0 0) := blk_cell HI2.out.rb 1
          have r1 : ((wr.alloc (.cells #[.string x.f0, .bool x.f1, .string x.f2, .int .i64 x.f3, .int .i64 x.f4, .int .i64 x.f5, .int .i64 x.f6] 100)).setCell ⟨gp, i, none⟩ (.int .i64 (-1))).frozen? ⟨w.heap.size, 1, none⟩ = false := blk_frozen HI2.out.rb 1
          have e2 : ((wr.alloc (.cells #[.string x.f0, .bool x.f1, .string x.f2, .int .i64 x.f3, .int .i64 x.f4, .int .i64 x.f5, .int .i64 x.f6] 100)).setCell ⟨gp, i, none⟩ (.int .i64 (-1))).cell? ⟨w.heap.size, 2, none⟩ = some (.slice none 0 0) := blk_cell HI2.out.rb 2
          have r2 : ((wr.alloc (.cells #[.string x.f0, .bool x.f1, .string x.f2, .int .i64 x.f3, .int .i64 x.f4, .int .i64 x.f5, .int .i64 x.f6] 100)).setCell ⟨gp, i, none⟩ (.int .i64 (-1))).frozen? ⟨w.heap.size, 2, none⟩ = false := blk_frozen HI2.out.rb 2
          have e3 : ((wr.alloc (.cells #[.string x.f0, .bool x.f1, .string x.f2, .int .i64 x.f3, .int .i64 x.f4, .int .i64 x.f5, .int .i64 x.f6] 100)).setCell ⟨gp, i, none⟩ (.int .i64 (-1))).cell? ⟨w.heap.size, 3, none⟩ = some (.bool false) := blk_cell HI2.out.rb 3
          have r3 : ((wr.alloc (.cells #[.string x.f0, .bool x.f1, .string x.f2, .int .i64 x.f3, .int .i64 x.f4, .int .i64 x.f5, .int .i64 x.f6] 100)).setCell ⟨gp, i, none⟩ (.int .i64 (-1))).frozen? ⟨w.heap.size, 3, none⟩ = false := blk_frozen HI2.out.rb 3
          go_wp2_with fail
          refine bodyPost_ret (results_cell_row rfl _ _ w.heap.size 221 #[.slice (some ad) l.length c, .slice (some ⟨gp, 0, none⟩) l.length cp, .slice Ae l.length ce, .bool false] (0, 0) _ rfl (blk_set (blk_set (blk_set (blk_set HI2.out.rb 0 (.slice (some ad) l.length c)) 1 (.slice (some ⟨gp, 0, none⟩) l.length cp)) 2 (.slice Ae l.length ce)) 3 (.bool false)) Tryd.underlying221 rfl (by kernel_rfl)) rfl ?_
          have hbad := HS.out.bad hlt (by rw [← HXE.out]; exact hk)
          have hfin := Kd.R_reads' (Kd.R_set (Kd.R_set (Kd.R_set (Kd.R_set HI2.out.re HI2.out.rb (by decide) 0 (.slice (some ad) l.length c)) (blk_set HI2.out.rb 0 (.slice (some ad) l.length c)) (by decide) 1 (.slice (some ⟨gp, 0, none⟩) l.length cp)) (blk_set (blk_set HI2.out.rb 0 (.slice (some ad) l.length c)) 1 (.slice (some ⟨gp, 0, none⟩) l.length cp)) (by decide) 2 (.slice Ae l.length ce)) (blk_set (blk_set (blk_set HI2.out.rb 0 (.slice (some ad) l.length c)) 1 (.slice (some ⟨gp, 0, none⟩) l.length cp)) 2 (.slice Ae l.length ce)) (by decide) 3 (.bool false))
          have hE1 := hfin.2.2
          rw [← hfin.1] at hE1
          first | exact ⟨some ⟨gp, 0, none⟩, l.length, cp, Ae, ce, E, (by rw [hbad]), hfin.1.symm, HCE.out, hE1, (fun h => by rw [hbad] at h; cases h), (below_set (below_set (below_set (below_set HI2.out.below (Nat.le_refl _)) (Nat.le_refl _)) (Nat.le_refl _)) (Nat.le_refl _))⟩ | exact ⟨some ⟨gp, 0, none⟩, l.length, cp, Ae, ce, (by rw [hbad]), E, hfin.1.symm, HCE.out, hE1, (fun h => by rw [hbad] at h; cases h), (below_set (below_set (below_set (below_set HI2.out.below (Nat.le_refl _)) (Nat.le_refl _)) (Nat.le_refl _)) (Nat.le_refl _))⟩
        · have hkb : decide (x.f5 < 0) = false := decide_eq_false hk
          go_wp2_with fail
          have HI_ := Lib.hid (show PS _ _ _ _ _ _ _ _ _ _ _ ((wr.alloc (.cells #[.string x.f0, .bool x.f1, .string x.f2, .int .i64 x.f3, .int .i64 x.f4, .int .i64 x.f5, .int .i64 x.f6] 100)).setCell ⟨gp, i, none⟩ (.int .i64 (-1))) from HI2.out)
          have N_ : Hid (((wr.alloc (.cells #[.string x.f0, .bool x.f1, .string x.f2, .int .i64 x.f3, .int .i64 x.f4, .int .i64 x.f5, .int .i64 x.f6] 100)).setCell ⟨gp, i, none⟩ (.int .i64 (-1))).heap[wr.heap.size]? = some (.cells #[.string x.f0, .bool x.f1, .string x.f2, .int .i64 x.f3, .int .i64 x.f4, .int .i64 x.f5, .int .i64 x.f6] 100 (0, 0))) := HN2
          clear k5 HI2 HN2
          generalize ((wr.alloc (.cells #[.string x.f0, .bool x.f1, .string x.f2, .int .i64 x.f3, .int .i64 x.f4, .int .i64 x.f5, .int .i64 x.f6] 100)).setCell ⟨gp, i, none⟩ (.int .i64 (-1))) = Wh at *
          have HI_ := Lib.hid (HI_.out.later (below_drew (Below.refl _ Wh)))
          have N_ : Hid (Wh.drew.heap[wr.heap.size]? = some (.cells #[.string x.f0, .bool x.f1, .string x.f2, .int .i64 x.f3, .int .i64 x.f4, .int .i64 x.f5, .int .i64 x.f6] 100 (0, 0))) := N_
          have hbo : ((osOf []).length + 1) * 8 ≤ 140737488355328 := by rw [osOf_len]; simp only [List.length_cons, List.length_nil]; omega
          have hbl : ((lsOf (decT [])).length + 1) * 8 ≤ 140737488355328 := by rw [lsOf_len, decT_len]; simp only [List.length_cons, List.length_nil]; omega
          refine start_ (n := 11) (S := fun w' => w'.cell? ⟨wr.heap.size, 5, none⟩ = some (.int .i64 x.f5)) (ds := []) #[false, false, false, false, false, false, false, false, false, false, false] (by kernel_rfl) rfl rfl (blk_cell N_.out 5) (fun hHeld => ?_)
          refine pure_ (i := 0) (N := some 52) (v := ?_) (a' := ?_) #[true, false, false, false, false, false, false, false, false, false, false] rfl rfl (by kernel_rfl) (fun _ _ _ h => h) (Or.inl ⟨by rfl, ?_⟩) ?_ ?_
          rotate_left
          · intro w'
            go_simp
            with_reducible rfl
          rotate_left
          · simp only [Act.put, List.setIfInBounds_toArray, List.set_cons_zero, List.set_cons_succ, i64_w, i32_w]
            rfl
          refine pure_ (i := 1) (N := some 53) (v := ?_) (a' := ?_) #[true, true, false, false, false, false, false, false, false, false, false] rfl rfl (by kernel_rfl) (fun _ _ _ h => h) (Or.inl ⟨by rfl, ?_⟩) ?_ ?_
          rotate_left
          · intro w'
            go_simp
            with_reducible rfl
          rotate_left
          · simp only [Act.put, List.setIfInBounds_toArray, List.set_cons_zero, List.set_cons_succ, i64_w, i32_w]
            rfl
          refine pure_ (i := 4) (N := some 56) (v := ?_) (a' := ?_) #[true, true, false, false, true, false, false, false, false, false, false] rfl rfl (by kernel_rfl) (fun _ _ _ h => h) (Or.inl ⟨by rfl, ?_⟩) ?_ ?_
          rotate_left
          · intro w'
            go_simp
            with_reducible rfl
          rotate_left
          · simp only [Act.put, List.setIfInBounds_toArray, List.set_cons_zero, List.set_cons_succ, i64_w, i32_w]
            rfl
          refine pure_ (i := 5) (N := some 57) (v := ?_) (a' := ?_) #[true, true, false, false, true, true, false, false, false, false, false] rfl rfl (by kernel_rfl) (fun _ _ _ h => h) (Or.inl ⟨by rfl, ?_⟩) ?_ ?_
          rotate_left
          · intro w'
            go_simp
            with_reducible rfl
          rotate_left
          · simp only [Act.put, List.setIfInBounds_toArray, List.set_cons_zero, List.set_cons_succ, i64_w, i32_w]
            rfl
          refine take_ (i := 6) (N := some 58) (v := ?_) (a' := ?_) #[true, true, false, false, true, true, true, false, false, false, false] rfl rfl (by kernel_rfl) (fun _ _ _ h => h) (Or.inl ⟨by rfl, ?_⟩) hHeld ?_ ?_
          rotate_left
          · intro w' s0
            go_simp
            with_reducible rfl
          rotate_left
          · simp only [Act.put, List.setIfInBounds_toArray, List.set_cons_zero, List.set_cons_succ, i64_w, i32_w]
            rfl
          refine join_ (σ := Nat × Nat × Value) 3 #[true, true, true, true, true, true, true, true, false, false, false] (fun s => [(54, .slice (some ⟨s.1, 0, none⟩) 1 1), (55, s.2.2), (59, .slice (some ⟨s.2.1, 0, none⟩) 1 1)]) (fun s w' => ∃ lp' : List Int, lp'.length = l.length ∧ PS w fb #[Value.slice (some ad) l.length c, Value.slice (some ⟨gp, 0, none⟩) l.length cp, Value.slice Ae l.length ce, Value.bool false] (.slice (some ⟨gp, 0, none⟩) l.length cp) (.slice Ae l.length ce) s.2.2 (.slice Al 0 cl) lp' E (osOf [] ++ [(i : Int)]) (lsOf (decT [])) w' ∧ w'.heap[wr.heap.size]? = some (.cells #[.string x.f0, .bool x.f1, .string x.f2, .int .i64 x.f3, .int .i64 x.f4, .int .i64 x.f5, .int .i64 x.f6] 100 (0, 0)) ∧ w'.heap[s.2.1]? = some (.cells #[.int .i64 x.f5] 3 (0, 0))) ?_ ?_
          rotate_left
          · intro hCont
            refine two_ (i := 2) (j := 7) (Ni := some 54) (Nj := some 59) #[true, true, true, false, true, true, true, false, false, false, false] #[true, true, false, false, true, true, true, true, false, false, false] rfl rfl rfl rfl (by kernel_rfl) (by decide) (by decide) (fun K hK => ?_) (fun K hK => ?_)
            · skip
              refine value_ (w1 := ?_) (v := ?_) (by rfl) rfl ?_ ?_
              rotate_left 2
              · go_simp
                constructor
                · rfl
                · rfl
              have HI_2 := Lib.hid (HI_.out.later (below_alloc (Below.refl _ Wh.drew) (.cells #[.int .i64 (i : Int)] 3)))
              have N_2 := Lib.hid (blk_alloc N_.out (.cells #[.int .i64 (i : Int)] 3))
              have L2_2 : Hid ((Wh.drew.alloc (.cells #[.int .i64 (i : Int)] 3)).heap[Wh.heap.size]? = some (.cells #[.int .i64 (i : Int)] 3 (0, 0))) := by have h := blk_new Wh.drew (.cells #[.int .i64 (i : Int)] 3); exact h
              refine hK.out _ _ (blk_cell N_2.out 5) (fun hHeld => ?_)
              clear hK K
              refine norm_ (a' := ?_) ?_ ?_
              rotate_left
              · show Act.put _ (some 54) _ = _
                simp only [Act.put, List.setIfInBounds_toArray, List.set_cons_zero, List.set_cons_succ, i64_w, i32_w]
                rfl
              refine two_ (i := 3) (j := 7) (Ni := some 55) (Nj := some 59) #[true, true, true, true, true, true, true, false, false, false, false] #[true, true, true, false, true, true, true, true, false, false, false] rfl rfl rfl rfl (by kernel_rfl) (by decide) (by decide) (fun K hK => ?_) (fun K hK => ?_)
              · skip
                refine Kd.R_append_rows_step kI (w0 := w) (W := (Wh.drew.alloc (.cells #[.int .i64 (i : Int)] 3))) w.heap.size (by rfl) (.tmp 52) (.tmp 54) 95 3 (.int .i64 0) 8 rfl Tryd.underlying95 info3 rfl (by decide) (by omega) (.slice Ao 0 co) (osOf []) [(i : Int)] (some ⟨Wh.heap.size, 0, none⟩) 1 1 tru (fun _ => False) rfl rfl HI_2.out.ro (C_one L2_2.out) (fun _ _ h => h) (fun _ h => h.elim) (fun _ _ => trivial) HI_2.out.below HI_2.out.below.size hbo ?_
                intro vO1 X_23 ho hb hg hat
                have HI_23 := Lib.hid (HI_2.out.growO hg hb ho hat)
                have N_23 := Lib.hid (blk_grown N_2.out hg (Kd.R_ne HI_2.out.ro N_2.out (by decide)))
                clear ho hb hg hat
                refine hK.out _ _ (blk_cell N_23.out 5) (fun hHeld => ?_)
                clear hK K
                refine norm_ (a' := ?_) ?_ ?_
                rotate_left
                · show Act.put _ (some 55) _ = _
                  simp only [Act.put, List.setIfInBounds_toArray, List.set_cons_zero, List.set_cons_succ, i64_w, i32_w]
                  rfl
                refine one_ (i := 7) (N := some 59) #[true, true, true, true, true, true, true, true, false, false, false] rfl rfl (by kernel_rfl) (by decide) (fun K hK => ?_)
                refine value_ (w1 := ?_) (v := ?_) (by rfl) rfl ?_ ?_
                rotate_left 2
                · go_simp
                  constructor
                  · rfl
                  · rfl
                have HI_237 := Lib.hid (HI_23.out.later (below_alloc (Below.refl _ X_23) (.cells #[.int .i64 x.f5] 3)))
                have N_237 := Lib.hid (blk_alloc N_23.out (.cells #[.int .i64 x.f5] 3))
                have L7_237 : Hid ((X_23.alloc (.cells #[.int .i64 x.f5] 3)).heap[X_23.heap.size]? = some (.cells #[.int .i64 x.f5] 3 (0, 0))) := by have h := blk_new X_23 (.cells #[.int .i64 x.f5] 3); exact h
                refine hK.out _ _ (blk_cell N_237.out 5) (fun hHeld => ?_)
                clear hK K
                refine norm_ (a' := ?_) ?_ ?_
                rotate_left
                · show Act.put _ (some 59) _ = _
                  simp only [Act.put, List.setIfInBounds_toArray, List.set_cons_zero, List.set_cons_succ, i64_w, i32_w]
                  rfl
                exact norm_ (by simp only [putAll, Act.put, List.setIfInBounds_toArray, List.set_cons_zero, List.set_cons_succ]) (hCont (Wh.heap.size, X_23.heap.size, vO1) _ ⟨_, (by simpa using hlp), HI_237.out, N_237.out, L7_237.out⟩)
              · skip
                refine value_ (w1 := ?_) (v := ?_) (by rfl) rfl ?_ ?_
                rotate_left 2
                · go_simp
                  constructor
                  · rfl
                  · rfl
                have HI_27 := Lib.hid (HI_2.out.later (below_alloc (Below.refl _ (Wh.drew.alloc (.cells #[.int .i64 (i : Int)] 3))) (.cells #[.int .i64 x.f5] 3)))
                have N_27 := Lib.hid (blk_alloc N_2.out (.cells #[.int .i64 x.f5] 3))
                have L7_27 : Hid (((Wh.drew.alloc (.cells #[.int .i64 (i : Int)] 3)).alloc (.cells #[.int .i64 x.f5] 3)).heap[Wh.heap.size + 1]? = some (.cells #[.int .i64 x.f5] 3 (0, 0))) := by have h := blk_new (Wh.drew.alloc (.cells #[.int .i64 (i : Int)] 3)) (.cells #[.int .i64 x.f5] 3); rw [sz_drew] at h; exact h
                have L2_27 := Lib.hid (blk_alloc L2_2.out (.cells #[.int .i64 x.f5] 3))
                refine hK.out _ _ (blk_cell N_27.out 5) (fun hHeld => ?_)
                clear hK K
                refine norm_ (a' := ?_) ?_ ?_
                rotate_left
                · show Act.put _ (some 59) _ = _
                  simp only [Act.put, List.setIfInBounds_toArray, List.set_cons_zero, List.set_cons_succ, i64_w, i32_w]
                  rfl
                refine one_ (i := 3) (N := some 55) #[true, true, true, true, true, true, true, true, false, false, false] rfl rfl (by kernel_rfl) (by decide) (fun K hK => ?_)
                refine Kd.R_append_rows_step kI (w0 := w) (W := ((Wh.drew.alloc (.cells #[.int .i64 (i : Int)] 3)).alloc (.cells #[.int .i64 x.f5] 3))) w.heap.size (by rfl) (.tmp 52) (.tmp 54) 95 3 (.int .i64 0) 8 rfl Tryd.underlying95 info3 rfl (by decide) (by omega) (.slice Ao 0 co) (osOf []) [(i : Int)] (some ⟨Wh.heap.size, 0, none⟩) 1 1 tru (fun _ => False) rfl rfl HI_27.out.ro (C_one L2_27.out) (fun _ _ h => h) (fun _ h => h.elim) (fun _ _ => trivial) HI_27.out.below HI_27.out.below.size hbo ?_
                intro vO1 X_273 ho hb hg hat
                have HI_273 := Lib.hid (HI_27.out.growO hg hb ho hat)
                have N_273 := Lib.hid (blk_grown N_27.out hg (Kd.R_ne HI_27.out.ro N_27.out (by decide)))
                have L7_273 := Lib.hid (blk_grown L7_27.out hg (fun e => by have h1 := own_lt HI_2.out.ro _ e.symm; rw [sz_drew] at h1; exact Nat.lt_irrefl _ h1))
                clear ho hb hg hat
                refine hK.out _ _ (blk_cell N_273.out 5) (fun hHeld => ?_)
                clear hK K
                refine norm_ (a' := ?_) ?_ ?_
                rotate_left
                · show Act.put _ (some 55) _ = _
                  simp only [Act.put, List.setIfInBounds_toArray, List.set_cons_zero, List.set_cons_succ, i64_w, i32_w]
                  rfl
                exact norm_ (by simp only [putAll, Act.put, List.setIfInBounds_toArray, List.set_cons_zero, List.set_cons_succ]) (hCont (Wh.heap.size, Wh.heap.size + 1, vO1) _ ⟨_, (by simpa using hlp), HI_273.out, N_273.out, L7_273.out⟩)
            · skip
              refine value_ (w1 := ?_) (v := ?_) (by rfl) rfl ?_ ?_
              rotate_left 2
              · go_simp
                constructor
                · rfl
                · rfl
              have HI_7 := Lib.hid (HI_.out.later (below_alloc (Below.refl _ Wh.drew) (.cells #[.int .i64 x.f5] 3)))
              have N_7 := Lib.hid (blk_alloc N_.out (.cells #[.int .i64 x.f5] 3))
              have L7_7 : Hid ((Wh.drew.alloc (.cells #[.int .i64 x.f5] 3)).heap[Wh.heap.size]? = some (.cells #[.int .i64 x.f5] 3 (0, 0))) := by have h := blk_new Wh.drew (.cells #[.int .i64 x.f5] 3); exact h
              refine hK.out _ _ (blk_cell N_7.out 5) (fun hHeld => ?_)
              clear hK K
              refine norm_ (a' := ?_) ?_ ?_
              rotate_left
              · show Act.put _ (some 59) _ = _
                simp only [Act.put, List.setIfInBounds_toArray, List.set_cons_zero, List.set_cons_succ, i64_w, i32_w]
                rfl
              refine one_ (i := 2) (N := some 54) #[true, true, true, false, true, true, true, true, false, false, false] rfl rfl (by kernel_rfl) (by decide) (fun K hK => ?_)
              refine value_ (w1 := ?_) (v := ?_) (by rfl) rfl ?_ ?_
              rotate_left 2
              · go_simp
                constructor
                · rfl
                · rfl
              have HI_72 := Lib.hid (HI_7.out.later (below_alloc (Below.refl _ (Wh.drew.alloc (.cells #[.int .i64 x.f5] 3))) (.cells #[.int .i64 (i : Int)] 3)))
              have N_72 := Lib.hid (blk_alloc N_7.out (.cells #[.int .i64 (i : Int)] 3))
              have L2_72 : Hid (((Wh.drew.alloc (.cells #[.int .i64 x.f5] 3)).alloc (.cells #[.int .i64 (i : Int)] 3)).heap[Wh.heap.size + 1]? = some (.cells #[.int .i64 (i : Int)] 3 (0, 0))) := by have h := blk_new (Wh.drew.alloc (.cells #[.int .i64 x.f5] 3)) (.cells #[.int .i64 (i : Int)] 3); rw [sz_drew] at h; exact h
              have L7_72 := Lib.hid (blk_alloc L7_7.out (.cells #[.int .i64 (i : Int)] 3))
              refine hK.out _ _ (blk_cell N_72.out 5) (fun hHeld => ?_)
              clear hK K
              refine norm_ (a' := ?_) ?_ ?_
              rotate_left
              · show Act.put _ (some 54) _ = _
                simp only [Act.put, List.setIfInBounds_toArray, List.set_cons_zero, List.set_cons_succ, i64_w, i32_w]
                rfl
              refine one_ (i := 3) (N := some 55) #[true, true, true, true, true, true, true, true, false, false, false] rfl rfl (by kernel_rfl) (by decide) (fun K hK => ?_)
              refine Kd.R_append_rows_step kI (w0 := w) (W := ((Wh.drew.alloc (.cells #[.int .i64 x.f5] 3)).alloc (.cells #[.int .i64 (i : Int)] 3))) w.heap.size (by rfl) (.tmp 52) (.tmp 54) 95 3 (.int .i64 0) 8 rfl Tryd.underlying95 info3 rfl (by decide) (by omega) (.slice Ao 0 co) (osOf []) [(i : Int)] (some ⟨Wh.heap.size + 1, 0, none⟩) 1 1 tru (fun _ => False) rfl rfl HI_72.out.ro (C_one L2_72.out) (fun _ _ h => h) (fun _ h => h.elim) (fun _ _ => trivial) HI_72.out.below HI_72.out.below.size hbo ?_
              intro vO1 X_723 ho hb hg hat
              have HI_723 := Lib.hid (HI_72.out.growO hg hb ho hat)
              have N_723 := Lib.hid (blk_grown N_72.out hg (Kd.R_ne HI_72.out.ro N_72.out (by decide)))
              have L7_723 := Lib.hid (blk_grown L7_72.out hg (fun e => by have h1 := own_lt HI_.out.ro _ e.symm; exact Nat.lt_irrefl _ h1))
              clear ho hb hg hat
              refine hK.out _ _ (blk_cell N_723.out 5) (fun hHeld => ?_)
              clear hK K
              refine norm_ (a' := ?_) ?_ ?_
              rotate_left
              · show Act.put _ (some 55) _ = _
                simp only [Act.put, List.setIfInBounds_toArray, List.set_cons_zero, List.set_cons_succ, i64_w, i32_w]
                rfl
              exact norm_ (by simp only [putAll, Act.put, List.setIfInBounds_toArray, List.set_cons_zero, List.set_cons_succ]) (hCont (Wh.heap.size + 1, Wh.heap.size, vO1) _ ⟨_, (by simpa using hlp), HI_723.out, N_723.out, L7_723.out⟩)
          rintro ⟨b2, b7, vO1⟩ Wk ⟨lpk, hlpk, hI, hN, hL⟩
          simp only at hI hL
          have hHeld := blk_cell hN 5
          have HIk := Lib.hid hI
          have HNk := Lib.hid hN
          have HLk := Lib.hid hL
          clear hI hN hL
          refine norm_ (a' := ?_) ?_ ?_
          rotate_left
          · simp only [putAll, Act.put, List.setIfInBounds_toArray, List.set_cons_zero, List.set_cons_succ]
            rfl
          refine one_ (i := 8) (N := some 60) #[true, true, true, true, true, true, true, true, true, false, false] rfl rfl (by kernel_rfl) (by decide) (fun K hK => ?_)
          refine Kd.R_append_rows_step kI (w0 := w) (W := Wk) w.heap.size (by rfl) (.tmp 56) (.tmp 59) 95 3 (.int .i64 0) 8 rfl Tryd.underlying95 info3 rfl (by decide) (by omega) (.slice Al 0 cl) (lsOf (decT [])) [x.f5] (some ⟨b7, 0, none⟩) 1 1 tru (fun _ => False) rfl rfl HIk.out.rl (C_one HLk.out) (fun _ _ h => h) (fun _ h => h.elim) (fun _ _ => trivial) HIk.out.below HIk.out.below.size hbl ?_
          intro vL1 Wm ho hb hg hat
          have HIm := Lib.hid (HIk.out.growL hg hb ho hat)
          have HNm := Lib.hid (blk_grown HNk.out hg (Kd.R_ne HIk.out.rl HNk.out (by decide)))
          clear ho hb hg hat
          refine hK.out _ _ (blk_cell HNm.out 5) (fun hHeld => ?_)
          clear hK K
          refine norm_ (a' := ?_) ?_ ?_
          rotate_left
          · show Act.put _ (some 60) _ = _
            simp only [Act.put, List.setIfInBounds_toArray, List.set_cons_zero, List.set_cons_succ, i64_w, i32_w]
            rfl
          refine pure_ (i := 9) (N := some 4) (v := ?_) (a' := ?_) #[true, true, true, true, true, true, true, true, true, true, false] rfl rfl (by kernel_rfl) (fun _ _ _ h => h) (Or.inl ⟨by rfl, ?_⟩) ?_ ?_
          rotate_left
          · intro w'
            go_simp
            with_reducible rfl
          rotate_left
          · simp only [Act.put, List.setIfInBounds_toArray, List.set_cons_zero, List.set_cons_succ, i64_w, i32_w]
            rfl
          refine pure_ (i := 10) (N := some 5) (v := ?_) (a' := ?_) #[true, true, true, true, true, true, true, true, true, true, true] rfl rfl (by kernel_rfl) (fun _ _ _ h => h) (Or.inl ⟨by rfl, ?_⟩) ?_ ?_
          rotate_left
          · intro w'
            go_simp
            with_reducible rfl
          rotate_left
          · simp only [Act.put, List.setIfInBounds_toArray, List.set_cons_zero, List.set_cons_succ, i64_w, i32_w]
            rfl
          refine done_ (by kernel_rfl) ?_
          have hk0 : 0 ≤ (l[i]).f5 := by rw [← HXE.out]; omega
          have hkx : ((l[i]).f5.toNat : Int) = x.f5 := by rw [← HXE.out]; omega
          have HMs := Lib.hid (HS.out.push hlt hk0)
          have e1 : osOf [] ++ [(i : Int)] = osOf ((i, (l[i]).f5.toNat) :: decT []) := by rw [osOf_top i (l[i]).f5.toNat (decT []), osOf_dec]
          have e2 : lsOf (decT []) ++ [x.f5] = lsOf ((i, (l[i]).f5.toNat) :: decT []) := by rw [lsOf_top i (l[i]).f5.toNat (decT []), hkx]
          have HIn := HIm.out
          rw [e1, e2] at HIn
          have HIN := Lib.hid HIn
          have HMx : Hid (∀ p ∈ ((i, (l[i]).f5.toNat) :: decT []), (p.2 : Int) ≤ 9223372036854775807) := by
            have hx9 : x.f5 ≤ 9223372036854775807 := by rw [HXE.out]; exact HKR.out _ (List.getElem_mem hlt)
            intro p hp
            rcases List.mem_cons.1 hp with rfl | hp
            · omega
            · exact dec_bound HM.out p hp
          have hsn : ((i, (l[i]).f5.toNat) :: decT []).length ≤ i + 1 := by rw [List.length_cons, decT_len]; simp only [List.length_cons, List.length_nil]; omega
          clear HIn e1 e2 hk0 hkx HIm HIk HNk HLk HNm HS HM HI_ N_
          generalize ((i, (l[i]).f5.toNat) :: decT []) = st0 at *
          go_wp2_with fail
          go_loopw [4, 5] (fun v4 v5 w' => ∃ (st1 : List (Nat × Nat)) (lp1 E1 : List Int), lp1.length = l.length ∧ st1.length ≤ i + 1 ∧ Hid (∀ p ∈ st1, (p.2 : Int) ≤ 9223372036854775807) ∧ Hid (PS w fb #[Value.slice (some ad) l.length c, Value.slice (some ⟨gp, 0, none⟩) l.length cp, Value.slice Ae l.length ce, Value.bool false] (.slice (some ⟨gp, 0, none⟩) l.length cp) (.slice Ae l.length ce) v4 v5 lp1 E1 (osOf st1) (lsOf st1) w') ∧ Hid (MidSt l (i + 1) st1 E1)) (fun v4 _ _ => match v4 with | .slice _ n _ => n | _ => 0)
          case atStart => exact ⟨st0, lpk, E, hlpk, hsn, HMx, HIN, HMs⟩
          case round =>
            try clear HIN HMs HMx
            obtain ⟨st1, lp1, E1, hlp1, hs1, HM1, HI1q, HS1⟩ := hrel
            obtain ⟨Ao1, co1, hvo1, hco1, _⟩ := Kd.R_reads HI1q.out.ro
            rw [osOf_len] at hvo1 hco1
            subst hvo1
            obtain ⟨Al1, cl1, hvl1, hcl1, _⟩ := Kd.R_reads HI1q.out.rl
            rw [lsOf_len] at hvl1 hcl1
            subst hvl1
            cases st1 with
            | nil =>
              go_wp2_with fail
              go_roundw
              case rel => exact ⟨i + 1, [], lp1, E1, by go_num, by omega, hlp1, Nat.zero_le _, HM1, HI1q, ⟨HS1.out, fun _ _ _ h => by cases h⟩⟩
              case measure => simp [intOf]; omega
            | cons xq st1 =>
              obtain ⟨x1, m1⟩ := xq
              have hlen1 : ((x1, m1) :: st1).length = st1.length + 1 := rfl
              rw [hlen1] at HI1q hs1 ⊢
              obtain ⟨go1, rfl, _, _⟩ := form_of HI1q.out.ro (by omega)
              obtain ⟨gl1, rfl, _, _⟩ := form_of HI1q.out.rl (by omega)
              have hwa : IntKind.i64.wrap ((st1.length : Int) + 1 - 1) = (st1.length : Int) := by rw [IntWalk.i64_in _ (by omega)]; omega
              have hwb : IntKind.i64.wrap (st1.length : Int) = (st1.length : Int) := by rw [IntWalk.i64_in _ (by omega)]
              have n3 : (0 : Int) ≤ (st1.length : Int) := Int.natCast_nonneg _
              have n4 : (st1.length : Int) < (st1.length : Int) + 1 := by omega
              have w1 : wr.cell? ⟨gl1, st1.length, none⟩ = some (.int .i64 (m1 : Int)) := cell_of HI1q.out.rl st1.length m1 (by rw [lsOf_top, List.getElem?_append_right (by rw [lsOf_len]; omega), lsOf_len, Nat.sub_self]; rfl)
              cases m1 with
              | succ m =>
                have hb1 : (((m + 1 : Nat) : Int) == 0) = false := beq_eq_false_iff_ne.2 (by omega)
                go_wp2_with fail
                go_roundw
                case rel => exact ⟨i + 1, (x1, m + 1) :: st1, lp1, E1, by go_num, by omega, hlp1, hs1, HM1, HI1q, ⟨HS1.out, fun _ _ _ h => by cases h; omega⟩⟩
                case measure => simp [intOf]; omega
              | zero =>
                obtain ⟨hx1, hpop⟩ := HS1.out.pop (by omega)
                have HPOP := Lib.hid hpop
                obtain ⟨ge, rfl, hge, _⟩ := form_of HI1q.out.re (by omega)
                have HGE : Hid (w.heap.size ≤ ge) := hge
                have w2 : wr.cell? ⟨fb, 2, none⟩ = some (.slice (some ⟨ge, 0, none⟩) l.length ce) := blk_cell HI1q.out.b 2
                have w3 : wr.cell? ⟨go1, st1.length, none⟩ = some (.int .i64 (x1 : Int)) := cell_of HI1q.out.ro st1.length x1 (by rw [osOf_top, List.getElem?_append_right (by rw [osOf_len]; omega), osOf_len, Nat.sub_self]; rfl)
                have n5 : (0 : Int) ≤ (x1 : Int) := Int.natCast_nonneg _
                have n6 : (x1 : Int) < (l.length : Int) := by omega
                have hwi : IntKind.i64.wrap ((i : Int) + 1) = (i : Int) + 1 := IntWalk.i64_in _ (by omega)
                have hEl : E1.length = l.length := HS1.out.ends.1
                obtain ⟨ev, hev⟩ : ∃ ev, E1[x1]? = some ev := ⟨_, List.getElem?_eq_getElem (by omega)⟩
                clear hpop hge
                go_wp2_with fail
                go_still_tail 10, (by kernel_rfl)
                have HIa := Lib.hid (HI1q.out.later (W1 := ({ heap := wr.heap, tape := wr.tape, drawn := wr.drawn + 1, os := wr.os, output := wr.output } : World)) (below_drew (Below.refl _ wr)))
                clear w1 w2 w3 HI1q
                generalize ({ heap := wr.heap, tape := wr.tape, drawn := wr.drawn + 1, os := wr.os, output := wr.output } : World) = Wd2 at *
                have w4 := cell_of HIa.out.re x1 ev hev
                have w5 := froz_of HIa.out.re (by omega) x1
                have HIb := Lib.hid (HIa.out.setE HGE.out x1 ((i : Int) + 1))
                clear HIa hev
                obtain ⟨i0, hi0, _, _, _⟩ := info_parts info3
                simp only [List.length_cons] at hco1 hcl1
                have hcut1 := cut_to (P := Tryd.prog) 95 3 .i64 Tryd.underlying95 hi0 (some ⟨go1, 0, none⟩) (st1.length + 1) co1 (st1.length : Int) n3 (by omega) hco1
                have hcut2 := cut_to (P := Tryd.prog) 95 3 .i64 Tryd.underlying95 hi0 (some ⟨gl1, 0, none⟩) (st1.length + 1) cl1 (st1.length : Int) n3 (by omega) hcl1
                rw [Int.toNat_natCast] at hcut1 hcut2
                go_wp2_with fail
                generalize hWe : Wd2.setCell ⟨ge, x1, none⟩ (.int .i64 ((i : Int) + 1)) = We at *
                clear hWe w4 w5
                have HIc := Lib.hid (fun k => HIb.out.later (pw_below_drewN (Below.refl _ We) k))
                go_quiet (fail)
                go_wp2_with fail
                have hT1 := (HIc.out nq).takeO (m := st1.length) (by rw [osOf_len]; simp) rfl
                have hT2 := hT1.takeL (m := st1.length) (by rw [lsOf_len]; simp) rfl
                rw [osOf_top, lsOf_top, List.take_left' (osOf_len st1), List.take_left' (lsOf_len st1)] at hT2
                have HT2 := Lib.hid hT2
                clear hT1 hT2
                go_roundw
                case rel => exact ⟨st1, lp1, E1.set x1 ((i : Int) + 1), hlp1, by omega, (fun p hp => HM1.out p (by simp [hp])), HT2, HPOP⟩
                case measure => exact Nat.lt_succ_self _
      | cons xm st =>
        obtain ⟨tx, tm⟩ := xm
        have hlen : ((tx, tm) :: st).length = st.length + 1 := rfl
        rw [hlen] at HI2 hsl ⊢
        obtain ⟨go, rfl, hgo, _⟩ := form_of HI2.out.ro (by omega)
        obtain ⟨gl, rfl, hgl, _⟩ := form_of HI2.out.rl (by omega)
        have HGL : Hid (w.heap.size ≤ gl) := hgl
        have hwr : IntKind.i64.wrap ((st.length : Int) + 1 - 1) = (st.length : Int) := by rw [IntWalk.i64_in _ (by omega)]; omega
        have hwr2 : IntKind.i64.wrap (st.length : Int) = (st.length : Int) := by rw [IntWalk.i64_in _ (by omega)]
        have n1 : (0 : Int) ≤ (st.length : Int) := Int.natCast_nonneg _
        have n2 : (st.length : Int) < (st.length : Int) + 1 := by omega
        have v1 : ((wr.alloc (.cells #[.string x.f0, .bool x.f1, .string x.f2, .int .i64 x.f3, .int .i64 x.f4, .int .i64 x.f5, .int .i64 x.f6] 100)).setCell ⟨gp, i, none⟩ (.int .i64 (-1))).cell? ⟨fb, 1, none⟩ = some (.slice (some ⟨gp, 0, none⟩) l.length cp) := blk_cell HI2.out.b 1
        have v2 : ((wr.alloc (.cells #[.string x.f0, .bool x.f1, .string x.f2, .int .i64 x.f3, .int .i64 x.f4, .int .i64 x.f5, .int .i64 x.f6] 100)).setCell ⟨gp, i, none⟩ (.int .i64 (-1))).cell? ⟨go, st.length, none⟩ = some (.int .i64 (tx : Int)) := cell_of HI2.out.ro st.length tx (by rw [osOf_top, List.getElem?_append_right (by rw [osOf_len]; omega), osOf_len, Nat.sub_self]; rfl)
        have v3 : ((wr.alloc (.cells #[.string x.f0, .bool x.f1, .string x.f2, .int .i64 x.f3, .int .i64 x.f4, .int .i64 x.f5, .int .i64 x.f6] 100)).setCell ⟨gp, i, none⟩ (.int .i64 (-1))).cell? ⟨gp, i, none⟩ = some (.int .i64 (-1)) := cell_of HI2.out.rp i (-1) (by rw [List.getElem?_set_self (by omega)])
        have v4 : ((wr.alloc (.cells #[.string x.f0, .bool x.f1, .string x.f2, .int .i64 x.f3, .int .i64 x.f4, .int .i64 x.f5, .int .i64 x.f6] 100)).setCell ⟨gp, i, none⟩ (.int .i64 (-1))).frozen? ⟨gp, i, none⟩ = false := froz_of HI2.out.rp (by omega) i
        clear hgo hgl
        go_wp2_with fail
        generalize hWc : ((wr.alloc (.cells #[.string x.f0, .bool x.f1, .string x.f2, .int .i64 x.f3, .int .i64 x.f4, .int .i64 x.f5, .int .i64 x.f6] 100)).setCell ⟨gp, i, none⟩ (.int .i64 (-1))) = Wc at *
        clear hWc
        go_still_tail 9, (by kernel_rfl)
        have HI3 := Lib.hid (HI2.out.later (W1 := ({ heap := Wc.heap, tape := Wc.tape, drawn := Wc.drawn + 1, os := Wc.os, output := Wc.output } : World)) (below_drew (Below.refl _ Wc)))
        have HN3 : Hid (({ heap := Wc.heap, tape := Wc.tape, drawn := Wc.drawn + 1, os := Wc.os, output := Wc.output } : World).heap[wr.heap.size]? = _) := HN2
        clear v1 v2 v3 v4 HI2 HN2
        generalize hWd : ({ heap := Wc.heap, tape := Wc.tape, drawn := Wc.drawn + 1, os := Wc.os, output := Wc.output } : World) = Wd at *
        clear hWd
        have v3 : Wd.cell? ⟨gp, i, none⟩ = some (.int .i64 (-1)) := cell_of HI3.out.rp i (-1) (by rw [List.getElem?_set_self (by omega)])
        have v4 : Wd.frozen? ⟨gp, i, none⟩ = false := froz_of HI3.out.rp (by omega) i
        have HI4 := Lib.hid (HI3.out.setP HGP.out i (tx : Int))
        obtain ⟨_, eg, _, gpc, hgpc⟩ := form_of HI3.out.rp (by omega)
        injection eg with eg
        injection eg with eg
        subst eg
        have HN4 := Lib.hid (blk_far HN3.out (p := ⟨gp, i, none⟩) (blk_ne HN3.out hgpc (by decide)) (.int .i64 (tx : Int)))
        have v5 : (Wd.setCell ⟨gp, i, none⟩ (.int .i64 (tx : Int))).cell? ⟨gl, st.length, none⟩ = some (.int .i64 (tm : Int)) := cell_of HI4.out.rl st.length tm (by rw [lsOf_top, List.getElem?_append_right (by rw [lsOf_len]; omega), lsOf_len, Nat.sub_self]; rfl)
        have v6 : (Wd.setCell ⟨gp, i, none⟩ (.int .i64 (tx : Int))).frozen? ⟨gl, st.length, none⟩ = false := froz_of HI4.out.rl (by omega) st.length
        have htm : 0 < tm := HS.out.pos tx tm st rfl
        have htm2 : (tm : Int) ≤ 9223372036854775807 := HM.out (tx, tm) (by simp)
        have hwm : IntKind.i64.wrap ((tm : Int) - 1) = (tm : Int) - 1 := IntWalk.i64_in _ (by omega)
        have HI5q := HI4.out.setL HGL.out st.length ((tm : Int) - 1)
        rw [lsOf_dec tx tm st htm] at HI5q
        have HI5 := Lib.hid HI5q
        obtain ⟨_, eg, _, glc, hglc⟩ := form_of HI4.out.rl (by omega)
        injection eg with eg
        injection eg with eg
        subst eg
        have HN5 := Lib.hid (blk_far HN4.out (p := ⟨gl, st.length, none⟩) (blk_ne HN4.out hglc (by decide)) (.int .i64 ((tm : Int) - 1)))
        clear HI3 HN3 HI4 HN4 hgpc hglc HI5q
        have k5 : ((Wd.setCell ⟨gp, i, none⟩ (.int .i64 (tx : Int))).setCell ⟨gl, st.length, none⟩ (.int .i64 ((tm : Int) - 1))).cell? ⟨wr.heap.size, 5, none⟩ = some (.int .i64 x.f5) := blk_cell HN5.out 5
        by_cases hk : x.f5 < 0
        · have hkb : decide (x.f5 < 0) = true := decide_eq_true hk
          have f0 : ((Wd.setCell ⟨gp, i, none⟩ (.int .i64 (tx : Int))).setCell ⟨gl, st.length, none⟩ (.int .i64 ((tm : Int) - 1))).cell? ⟨fb, 0, none⟩ = some (.slice (some ad) l.length c) := blk_cell HI5.out.b 0
          have f1 : ((Wd.setCell ⟨gp, i, none⟩ (.int .i64 (tx : Int))).setCell ⟨gl, st.length, none⟩ (.int .i64 ((tm : Int) - 1))).cell? ⟨fb, 1, none⟩ = some (.slice (some ⟨gp, 0, none⟩) l.length cp) := blk_cell HI5.out.b 1
          have f2 : ((Wd.setCell ⟨gp, i, none⟩ (.int .i64 (tx : Int))).setCell ⟨gl, st.length, none⟩ (.int .i64 ((tm : Int) - 1))).cell? ⟨fb, 2, none⟩ = some (.slice Ae l.length ce) := blk_cell HI5.out.b 2
          have f3 : ((Wd.setCell ⟨gp, i, none⟩ (.int .i64 (tx : Int))).setCell ⟨gl, st.length, none⟩ (.int .i64 ((tm : Int) - 1))).cell? ⟨fb, 3, none⟩ = some (.bool false) := blk_cell HI5.out.b 3
          have e0 : ((Wd.setCell ⟨gp, i, none⟩ (.int .i64 (tx : Int))).setCell ⟨gl, st.length, none⟩ (.int .i64 ((tm : Int) - 1))).cell? ⟨w.heap.size, 0, none⟩ = some (.slice none 0 0) := blk_cell HI5.out.rb 0
          have r0 : ((Wd.setCell ⟨gp, i, none⟩ (.int .i64 (tx : Int))).setCell ⟨gl, st.length, none⟩ (.int .i64 ((tm : Int) - 1))).frozen? ⟨w.heap.size, 0, none⟩ = false := blk_frozen HI5.out.rb 0
          have e1 : ((Wd.setCell ⟨gp, i, none⟩ (.int .i64 (tx : Int))).setCell ⟨gl, st.length, none⟩ (.int .i64 ((tm : Int) - 1))).cell? ⟨w.heap.size, 1, none⟩ = some (.slice none 0 0) := blk_cell HI5.out.rb 1
          have r1 : ((Wd.setCell ⟨gp, i, none⟩ (.int .i64 (tx : Int))).setCell ⟨gl, st.length, none⟩ (.int .i64 ((tm : Int) - 1))).frozen? ⟨w.heap.size, 1, none⟩ = false := blk_frozen HI5.out.rb 1
          have e2 : ((Wd.setCell ⟨gp, i, none⟩ (.int .i64 (tx : Int))).setCell ⟨gl, st.length, none⟩ (.int .i64 ((tm : Int) - 1))).cell? ⟨w.heap.size, 2, none⟩ = some (.slice none 0 0) := blk_cell HI5.out.rb 2
          have r2 : ((Wd.setCell ⟨gp, i, none⟩ (.int .i64 (tx : Int))).setCell ⟨gl, st.length, none⟩ (.int .i64 ((tm : Int) - 1))).frozen? ⟨w.heap.size, 2, none⟩ = false := blk_frozen HI5.out.rb 2
          have e3 : ((Wd.setCell ⟨gp, i, none⟩ (.int .i64 (tx : Int))).setCell ⟨gl, st.length, none⟩ (.int .i64 ((tm : Int) - 1))).cell? ⟨w.heap.size, 3, none⟩ = some (.bool false) := blk_cell HI5.out.rb 3
          have r3 : ((Wd.setCell ⟨gp, i, none⟩ (.int .i64 (tx : Int))).setCell ⟨gl, st.length, none⟩ (.int .i64 ((tm : Int) - 1))).frozen? ⟨w.heap.size, 3, none⟩ = false := blk_frozen HI5.out.rb 3
          go_wp2_with fail
          refine bodyPost_ret (results_cell_row rfl _ _ w.heap.size 221 #[.slice (some ad) l.length c, .slice (some ⟨gp, 0, none⟩) l.length cp, .slice Ae l.length ce, .bool false] (0, 0) _ rfl (blk_set (blk_set (blk_set (blk_set HI5.out.rb 0 (.slice (some ad) l.length c)) 1 (.slice (some ⟨gp, 0, none⟩) l.length cp)) 2 (.slice Ae l.length ce)) 3 (.bool false)) Tryd.underlying221 rfl (by kernel_rfl)) rfl ?_
          have hbad := HS.out.bad hlt (by rw [← HXE.out]; exact hk)
          have hfin := Kd.R_reads' (Kd.R_set (Kd.R_set (Kd.R_set (Kd.R_set HI5.out.re HI5.out.rb (by decide) 0 (.slice (some ad) l.length c)) (blk_set HI5.out.rb 0 (.slice (some ad) l.length c)) (by decide) 1 (.slice (some ⟨gp, 0, none⟩) l.length cp)) (blk_set (blk_set HI5.out.rb 0 (.slice (some ad) l.length c)) 1 (.slice (some ⟨gp, 0, none⟩) l.length cp)) (by decide) 2 (.slice Ae l.length ce)) (blk_set (blk_set (blk_set HI5.out.rb 0 (.slice (some ad) l.length c)) 1 (.slice (some ⟨gp, 0, none⟩) l.length cp)) 2 (.slice Ae l.length ce)) (by decide) 3 (.bool false))
          have hE1 := hfin.2.2
          rw [← hfin.1] at hE1
          first | exact ⟨some ⟨gp, 0, none⟩, l.length, cp, Ae, ce, E, (by rw [hbad]), hfin.1.symm, HCE.out, hE1, (fun h => by rw [hbad] at h; cases h), (below_set (below_set (below_set (below_set HI5.out.below (Nat.le_refl _)) (Nat.le_refl _)) (Nat.le_refl _)) (Nat.le_refl _))⟩ | exact ⟨some ⟨gp, 0, none⟩, l.length, cp, Ae, ce, (by rw [hbad]), E, hfin.1.symm, HCE.out, hE1, (fun h => by rw [hbad] at h; cases h), (below_set (below_set (below_set (below_set HI5.out.below (Nat.le_refl _)) (Nat.le_refl _)) (Nat.le_refl _)) (Nat.le_refl _))⟩
        · have hkb : decide (x.f5 < 0) = false := decide_eq_false hk
          go_wp2_with fail
          have HI_ := Lib.hid (show PS _ _ _ _ _ _ _ _ _ _ _ ((Wd.setCell ⟨gp, i, none⟩ (.int .i64 (tx : Int))).setCell ⟨gl, st.length, none⟩ (.int .i64 ((tm : Int) - 1))) from HI5.out)
          have N_ : Hid (((Wd.setCell ⟨gp, i, none⟩ (.int .i64 (tx : Int))).setCell ⟨gl, st.length, none⟩ (.int .i64 ((tm : Int) - 1))).heap[wr.heap.size]? = some (.cells #[.string x.f0, .bool x.f1, .string x.f2, .int .i64 x.f3, .int .i64 x.f4, .int .i64 x.f5, .int .i64 x.f6] 100 (0, 0))) := HN5
          clear k5 HI5 HN5
          generalize ((Wd.setCell ⟨gp, i, none⟩ (.int .i64 (tx : Int))).setCell ⟨gl, st.length, none⟩ (.int .i64 ((tm : Int) - 1))) = Wh at *
          have HI_ := Lib.hid (HI_.out.later (below_drew (Below.refl _ Wh)))
          have N_ : Hid (Wh.drew.heap[wr.heap.size]? = some (.cells #[.string x.f0, .bool x.f1, .string x.f2, .int .i64 x.f3, .int .i64 x.f4, .int .i64 x.f5, .int .i64 x.f6] 100 (0, 0))) := N_
          have hbo : ((osOf ((tx, tm) :: st)).length + 1) * 8 ≤ 140737488355328 := by rw [osOf_len]; simp only [List.length_cons, List.length_nil]; omega
          have hbl : ((lsOf (decT ((tx, tm) :: st))).length + 1) * 8 ≤ 140737488355328 := by rw [lsOf_len, decT_len]; simp only [List.length_cons, List.length_nil]; omega
          refine start_ (n := 11) (S := fun w' => w'.cell? ⟨wr.heap.size, 5, none⟩ = some (.int .i64 x.f5)) (ds := []) #[false, false, false, false, false, false, false, false, false, false, false] (by kernel_rfl) rfl rfl (blk_cell N_.out 5) (fun hHeld => ?_)
          refine pure_ (i := 0) (N := some 52) (v := ?_) (a' := ?_) #[true, false, false, false, false, false, false, false, false, false, false] rfl rfl (by kernel_rfl) (fun _ _ _ h => h) (Or.inl ⟨by rfl, ?_⟩) ?_ ?_
          rotate_left
          · intro w'
            go_simp
            with_reducible rfl
          rotate_left
          · simp only [Act.put, List.setIfInBounds_toArray, List.set_cons_zero, List.set_cons_succ, i64_w, i32_w]
            rfl
          refine pure_ (i := 1) (N := some 53) (v := ?_) (a' := ?_) #[true, true, false, false, false, false, false, false, false, false, false] rfl rfl (by kernel_rfl) (fun _ _ _ h => h) (Or.inl ⟨by rfl, ?_⟩) ?_ ?_
          rotate_left
          · intro w'
            go_simp
            with_reducible rfl
          rotate_left
          · simp only [Act.put, List.setIfInBounds_toArray, List.set_cons_zero, List.set_cons_succ, i64_w, i32_w]
            rfl
          refine pure_ (i := 4) (N := some 56) (v := ?_) (a' := ?_) #[true, true, false, false, true, false, false, false, false, false, false] rfl rfl (by kernel_rfl) (fun _ _ _ h => h) (Or.inl ⟨by rfl, ?_⟩) ?_ ?_
          rotate_left
          · intro w'
            go_simp
            with_reducible rfl
          rotate_left
          · simp only [Act.put, List.setIfInBounds_toArray, List.set_cons_zero, List.set_cons_succ, i64_w, i32_w]
            rfl
          refine pure_ (i := 5) (N := some 57) (v := ?_) (a' := ?_) #[true, true, false, false, true, true, false, false, false, false, false] rfl rfl (by kernel_rfl) (fun _ _ _ h => h) (Or.inl ⟨by rfl, ?_⟩) ?_ ?_
          rotate_left
          · intro w'
            go_simp
            with_reducible rfl
          rotate_left
          · simp only [Act.put, List.setIfInBounds_toArray, List.set_cons_zero, List.set_cons_succ, i64_w, i32_w]
            rfl
          refine take_ (i := 6) (N := some 58) (v := ?_) (a' := ?_) #[true, true, false, false, true, true, true, false, false, false, false] rfl rfl (by kernel_rfl) (fun _ _ _ h => h) (Or.inl ⟨by rfl, ?_⟩) hHeld ?_ ?_
          rotate_left
          · intro w' s0
            go_simp
            with_reducible rfl
          rotate_left
          · simp only [Act.put, List.setIfInBounds_toArray, List.set_cons_zero, List.set_cons_succ, i64_w, i32_w]
            rfl
          refine join_ (σ := Nat × Nat × Value) 3 #[true, true, true, true, true, true, true, true, false, false, false] (fun s => [(54, .slice (some ⟨s.1, 0, none⟩) 1 1), (55, s.2.2), (59, .slice (some ⟨s.2.1, 0, none⟩) 1 1)]) (fun s w' => ∃ lp' : List Int, lp'.length = l.length ∧ PS w fb #[Value.slice (some ad) l.length c, Value.slice (some ⟨gp, 0, none⟩) l.length cp, Value.slice Ae l.length ce, Value.bool false] (.slice (some ⟨gp, 0, none⟩) l.length cp) (.slice Ae l.length ce) s.2.2 (.slice (some ⟨gl, 0, none⟩) (st.length + 1) cl) lp' E (osOf ((tx, tm) :: st) ++ [(i : Int)]) (lsOf (decT ((tx, tm) :: st))) w' ∧ w'.heap[wr.heap.size]? = some (.cells #[.string x.f0, .bool x.f1, .string x.f2, .int .i64 x.f3, .int .i64 x.f4, .int .i64 x.f5, .int .i64 x.f6] 100 (0, 0)) ∧ w'.heap[s.2.1]? = some (.cells #[.int .i64 x.f5] 3 (0, 0))) ?_ ?_
          rotate_left
          · intro hCont
            refine two_ (i := 2) (j := 7) (Ni := some 54) (Nj := some 59) #[true, true, true, false, true, true, true, false, false, false, false] #[true, true, false, false, true, true, true, true, false, false, false] rfl rfl rfl rfl (by kernel_rfl) (by decide) (by decide) (fun K hK => ?_) (fun K hK => ?_)
            · skip
              refine value_ (w1 := ?_) (v := ?_) (by rfl) rfl ?_ ?_
              rotate_left 2
              · go_simp
                constructor
                · rfl
                · rfl
              have HI_2 := Lib.hid (HI_.out.later (below_alloc (Below.refl _ Wh.drew) (.cells #[.int .i64 (i : Int)] 3)))
              have N_2 := Lib.hid (blk_alloc N_.out (.cells #[.int .i64 (i : Int)] 3))
              have L2_2 : Hid ((Wh.drew.alloc (.cells #[.int .i64 (i : Int)] 3)).heap[Wh.heap.size]? = some (.cells #[.int .i64 (i : Int)] 3 (0, 0))) := by have h := blk_new Wh.drew (.cells #[.int .i64 (i : Int)] 3); exact h
              refine hK.out _ _ (blk_cell N_2.out 5) (fun hHeld => ?_)
              clear hK K
              refine norm_ (a' := ?_) ?_ ?_
              rotate_left
              · show Act.put _ (some 54) _ = _
                simp only [Act.put, List.setIfInBounds_toArray, List.set_cons_zero, List.set_cons_succ, i64_w, i32_w]
                rfl
              refine two_ (i := 3) (j := 7) (Ni := some 55) (Nj := some 59) #[true, true, true, true, true, true, true, false, false, false, false] #[true, true, true, false, true, true, true, true, false, false, false] rfl rfl rfl rfl (by kernel_rfl) (by decide) (by decide) (fun K hK => ?_) (fun K hK => ?_)
              · skip
                refine Kd.R_append_rows_step kI (w0 := w) (W := (Wh.drew.alloc (.cells #[.int .i64 (i : Int)] 3))) w.heap.size (by rfl) (.tmp 52) (.tmp 54) 95 3 (.int .i64 0) 8 rfl Tryd.underlying95 info3 rfl (by decide) (by omega) (.slice (some ⟨go, 0, none⟩) (st.length + 1) co) (osOf ((tx, tm) :: st)) [(i : Int)] (some ⟨Wh.heap.size, 0, none⟩) 1 1 tru (fun _ => False) rfl rfl HI_2.out.ro (C_one L2_2.out) (fun _ _ h => h) (fun _ h => h.elim) (fun _ _ => trivial) HI_2.out.below HI_2.out.below.size hbo ?_
                intro vO1 X_23 ho hb hg hat
                have HI_23 := Lib.hid (HI_2.out.growO hg hb ho hat)
                have N_23 := Lib.hid (blk_grown N_2.out hg (Kd.R_ne HI_2.out.ro N_2.out (by decide)))
                clear ho hb hg hat
                refine hK.out _ _ (blk_cell N_23.out 5) (fun hHeld => ?_)
                clear hK K
                refine norm_ (a' := ?_) ?_ ?_
                rotate_left
                · show Act.put _ (some 55) _ = _
                  simp only [Act.put, List.setIfInBounds_toArray, List.set_cons_zero, List.set_cons_succ, i64_w, i32_w]
                  rfl
                refine one_ (i := 7) (N := some 59) #[true, true, true, true, true, true, true, true, false, false, false] rfl rfl (by kernel_rfl) (by decide) (fun K hK => ?_)
                refine value_ (w1 := ?_) (v := ?_) (by rfl) rfl ?_ ?_
                rotate_left 2
                · go_simp
                  constructor
                  · rfl
                  · rfl
                have HI_237 := Lib.hid (HI_23.out.later (below_alloc (Below.refl _ X_23) (.cells #[.int .i64 x.f5] 3)))
                have N_237 := Lib.hid (blk_alloc N_23.out (.cells #[.int .i64 x.f5] 3))
                have L7_237 : Hid ((X_23.alloc (.cells #[.int .i64 x.f5] 3)).heap[X_23.heap.size]? = some (.cells #[.int .i64 x.f5] 3 (0, 0))) := by have h := blk_new X_23 (.cells #[.int .i64 x.f5] 3); exact h
                refine hK.out _ _ (blk_cell N_237.out 5) (fun hHeld => ?_)
                clear hK K
                refine norm_ (a' := ?_) ?_ ?_
                rotate_left
                · show Act.put _ (some 59) _ = _
                  simp only [Act.put, List.setIfInBounds_toArray, List.set_cons_zero, List.set_cons_succ, i64_w, i32_w]
                  rfl
                exact norm_ (by simp only [putAll, Act.put, List.setIfInBounds_toArray, List.set_cons_zero, List.set_cons_succ]) (hCont (Wh.heap.size, X_23.heap.size, vO1) _ ⟨_, (by simpa using hlp), HI_237.out, N_237.out, L7_237.out⟩)
              · skip
                refine value_ (w1 := ?_) (v := ?_) (by rfl) rfl ?_ ?_
                rotate_left 2
                · go_simp
                  constructor
                  · rfl
                  · rfl
                have HI_27 := Lib.hid (HI_2.out.later (below_alloc (Below.refl _ (Wh.drew.alloc (.cells #[.int .i64 (i : Int)] 3))) (.cells #[.int .i64 x.f5] 3)))
                have N_27 := Lib.hid (blk_alloc N_2.out (.cells #[.int .i64 x.f5] 3))
                have L7_27 : Hid (((Wh.drew.alloc (.cells #[.int .i64 (i : Int)] 3)).alloc (.cells #[.int .i64 x.f5] 3)).heap[Wh.heap.size + 1]? = some (.cells #[.int .i64 x.f5] 3 (0, 0))) := by have h := blk_new (Wh.drew.alloc (.cells #[.int .i64 (i : Int)] 3)) (.cells #[.int .i64 x.f5] 3); rw [sz_drew] at h; exact h
                have L2_27 := Lib.hid (blk_alloc L2_2.out (.cells #[.int .i64 x.f5] 3))
                refine hK.out _ _ (blk_cell N_27.out 5) (fun hHeld => ?_)
                clear hK K
                refine norm_ (a' := ?_) ?_ ?_
                rotate_left
                · show Act.put _ (some 59) _ = _
                  simp only [Act.put, List.setIfInBounds_toArray, List.set_cons_zero, List.set_cons_succ, i64_w, i32_w]
                  rfl
                refine one_ (i := 3) (N := some 55) #[true, true, true, true, true, true, true, true, false, false, false] rfl rfl (by kernel_rfl) (by decide) (fun K hK => ?_)
                refine Kd.R_append_rows_step kI (w0 := w) (W := ((Wh.drew.alloc (.cells #[.int .i64 (i : Int)] 3)).alloc (.cells #[.int .i64 x.f5] 3))) w.heap.size (by rfl) (.tmp 52) (.tmp 54) 95 3 (.int .i64 0) 8 rfl Tryd.underlying95 info3 rfl (by decide) (by omega) (.slice (some ⟨go, 0, none⟩) (st.length + 1) co) (osOf ((tx, tm) :: st)) [(i : Int)] (some ⟨Wh.heap.size, 0, none⟩) 1 1 tru (fun _ => False) rfl rfl HI_27.out.ro (C_one L2_27.out) (fun _ _ h => h) (fun _ h => h.elim) (fun _ _ => trivial) HI_27.out.below HI_27.out.below.size hbo ?_
                intro vO1 X_273 ho hb hg hat
                have HI_273 := Lib.hid (HI_27.out.growO hg hb ho hat)
                have N_273 := Lib.hid (blk_grown N_27.out hg (Kd.R_ne HI_27.out.ro N_27.out (by decide)))
                have L7_273 := Lib.hid (blk_grown L7_27.out hg (fun e => by have h1 := own_lt HI_2.out.ro _ e.symm; rw [sz_drew] at h1; exact Nat.lt_irrefl _ h1))
                clear ho hb hg hat
                refine hK.out _ _ (blk_cell N_273.out 5) (fun hHeld => ?_)
                clear hK K
                refine norm_ (a' := ?_) ?_ ?_
                rotate_left
                · show Act.put _ (some 55) _ = _
                  simp only [Act.put, List.setIfInBounds_toArray, List.set_cons_zero, List.set_cons_succ, i64_w, i32_w]
                  rfl
                exact norm_ (by simp only [putAll, Act.put, List.setIfInBounds_toArray, List.set_cons_zero, List.set_cons_succ]) (hCont (Wh.heap.size, Wh.heap.size + 1, vO1) _ ⟨_, (by simpa using hlp), HI_273.out, N_273.out, L7_273.out⟩)
            · skip
              refine value_ (w1 := ?_) (v := ?_) (by rfl) rfl ?_ ?_
              rotate_left 2
              · go_simp
                constructor
                · rfl
                · rfl
              have HI_7 := Lib.hid (HI_.out.later (below_alloc (Below.refl _ Wh.drew) (.cells #[.int .i64 x.f5] 3)))
              have N_7 := Lib.hid (blk_alloc N_.out (.cells #[.int .i64 x.f5] 3))
              have L7_7 : Hid ((Wh.drew.alloc (.cells #[.int .i64 x.f5] 3)).heap[Wh.heap.size]? = some (.cells #[.int .i64 x.f5] 3 (0, 0))) := by have h := blk_new Wh.drew (.cells #[.int .i64 x.f5] 3); exact h
              refine hK.out _ _ (blk_cell N_7.out 5) (fun hHeld => ?_)
              clear hK K
              refine norm_ (a' := ?_) ?_ ?_
              rotate_left
              · show Act.put _ (some 59) _ = _
                simp only [Act.put, List.setIfInBounds_toArray, List.set_cons_zero, List.set_cons_succ, i64_w, i32_w]
                rfl
              refine one_ (i := 2) (N := some 54) #[true, true, true, false, true, true, true, true, false, false, false] rfl rfl (by kernel_rfl) (by decide) (fun K hK => ?_)
              refine value_ (w1 := ?_) (v := ?_) (by rfl) rfl ?_ ?_
              rotate_left 2
              · go_simp
                constructor
                · rfl
                · rfl
              have HI_72 := Lib.hid (HI_7.out.later (below_alloc (Below.refl _ (Wh.drew.alloc (.cells #[.int .i64 x.f5] 3))) (.cells #[.int .i64 (i : Int)] 3)))
              have N_72 := Lib.hid (blk_alloc N_7.out (.cells #[.int .i64 (i : Int)] 3))
              have L2_72 : Hid (((Wh.drew.alloc (.cells #[.int .i64 x.f5] 3)).alloc (.cells #[.int .i64 (i : Int)] 3)).heap[Wh.heap.size + 1]? = some (.cells #[.int .i64 (i : Int)] 3 (0, 0))) := by have h := blk_new (Wh.drew.alloc (.cells #[.int .i64 x.f5] 3)) (.cells #[.int .i64 (i : Int)] 3); rw [sz_drew] at h; exact h
              have L7_72 := Lib.hid (blk_alloc L7_7.out (.cells #[.int .i64 (i : Int)] 3))
              refine hK.out _ _ (blk_cell N_72.out 5) (fun hHeld => ?_)
              clear hK K
              refine norm_ (a' := ?_) ?_ ?_
              rotate_left
              · show Act.put _ (some 54) _ = _
                simp only [Act.put, List.setIfInBounds_toArray, List.set_cons_zero, List.set_cons_succ, i64_w, i32_w]
                rfl
              refine one_ (i := 3) (N := some 55) #[true, true, true, true, true, true, true, true, false, false, false] rfl rfl (by kernel_rfl) (by decide) (fun K hK => ?_)
              refine Kd.R_append_rows_step kI (w0 := w) (W := ((Wh.drew.alloc (.cells #[.int .i64 x.f5] 3)).alloc (.cells #[.int .i64 (i : Int)] 3))) w.heap.size (by rfl) (.tmp 52) (.tmp 54) 95 3 (.int .i64 0) 8 rfl Tryd.underlying95 info3 rfl (by decide) (by omega) (.slice (some ⟨go, 0, none⟩) (st.length + 1) co) (osOf ((tx, tm) :: st)) [(i : Int)] (some ⟨Wh.heap.size + 1, 0, none⟩) 1 1 tru (fun _ => False) rfl rfl HI_72.out.ro (C_one L2_72.out) (fun _ _ h => h) (fun _ h => h.elim) (fun _ _ => trivial) HI_72.out.below HI_72.out.below.size hbo ?_
              intro vO1 X_723 ho hb hg hat
              have HI_723 := Lib.hid (HI_72.out.growO hg hb ho hat)
              have N_723 := Lib.hid (blk_grown N_72.out hg (Kd.R_ne HI_72.out.ro N_72.out (by decide)))
              have L7_723 := Lib.hid (blk_grown L7_72.out hg (fun e => by have h1 := own_lt HI_.out.ro _ e.symm; exact Nat.lt_irrefl _ h1))
              clear ho hb hg hat
              refine hK.out _ _ (blk_cell N_723.out 5) (fun hHeld => ?_)
              clear hK K
              refine norm_ (a' := ?_) ?_ ?_
              rotate_left
              · show Act.put _ (some 55) _ = _
                simp only [Act.put, List.setIfInBounds_toArray, List.set_cons_zero, List.set_cons_succ, i64_w, i32_w]
                rfl
              exact norm_ (by simp only [putAll, Act.put, List.setIfInBounds_toArray, List.set_cons_zero, List.set_cons_succ]) (hCont (Wh.heap.size + 1, Wh.heap.size, vO1) _ ⟨_, (by simpa using hlp), HI_723.out, N_723.out, L7_723.out⟩)
          rintro ⟨b2, b7, vO1⟩ Wk ⟨lpk, hlpk, hI, hN, hL⟩
          simp only at hI hL
          have hHeld := blk_cell hN 5
          have HIk := Lib.hid hI
          have HNk := Lib.hid hN
          have HLk := Lib.hid hL
          clear hI hN hL
          refine norm_ (a' := ?_) ?_ ?_
          rotate_left
          · simp only [putAll, Act.put, List.setIfInBounds_toArray, List.set_cons_zero, List.set_cons_succ]
            rfl
          refine one_ (i := 8) (N := some 60) #[true, true, true, true, true, true, true, true, true, false, false] rfl rfl (by kernel_rfl) (by decide) (fun K hK => ?_)
          refine Kd.R_append_rows_step kI (w0 := w) (W := Wk) w.heap.size (by rfl) (.tmp 56) (.tmp 59) 95 3 (.int .i64 0) 8 rfl Tryd.underlying95 info3 rfl (by decide) (by omega) (.slice (some ⟨gl, 0, none⟩) (st.length + 1) cl) (lsOf (decT ((tx, tm) :: st))) [x.f5] (some ⟨b7, 0, none⟩) 1 1 tru (fun _ => False) rfl rfl HIk.out.rl (C_one HLk.out) (fun _ _ h => h) (fun _ h => h.elim) (fun _ _ => trivial) HIk.out.below HIk.out.below.size hbl ?_
          intro vL1 Wm ho hb hg hat
          have HIm := Lib.hid (HIk.out.growL hg hb ho hat)
          have HNm := Lib.hid (blk_grown HNk.out hg (Kd.R_ne HIk.out.rl HNk.out (by decide)))
          clear ho hb hg hat
          refine hK.out _ _ (blk_cell HNm.out 5) (fun hHeld => ?_)
          clear hK K
          refine norm_ (a' := ?_) ?_ ?_
          rotate_left
          · show Act.put _ (some 60) _ = _
            simp only [Act.put, List.setIfInBounds_toArray, List.set_cons_zero, List.set_cons_succ, i64_w, i32_w]
            rfl
          refine pure_ (i := 9) (N := some 4) (v := ?_) (a' := ?_) #[true, true, true, true, true, true, true, true, true, true, false] rfl rfl (by kernel_rfl) (fun _ _ _ h => h) (Or.inl ⟨by rfl, ?_⟩) ?_ ?_
          rotate_left
          · intro w'
            go_simp
            with_reducible rfl
          rotate_left
          · simp only [Act.put, List.setIfInBounds_toArray, List.set_cons_zero, List.set_cons_succ, i64_w, i32_w]
            rfl
          refine pure_ (i := 10) (N := some 5) (v := ?_) (a' := ?_) #[true, true, true, true, true, true, true, true, true, true, true] rfl rfl (by kernel_rfl) (fun _ _ _ h => h) (Or.inl ⟨by rfl, ?_⟩) ?_ ?_
          rotate_left
          · intro w'
            go_simp
            with_reducible rfl
          rotate_left
          · simp only [Act.put, List.setIfInBounds_toArray, List.set_cons_zero, List.set_cons_succ, i64_w, i32_w]
            rfl
          refine done_ (by kernel_rfl) ?_
          have hk0 : 0 ≤ (l[i]).f5 := by rw [← HXE.out]; omega
          have hkx : ((l[i]).f5.toNat : Int) = x.f5 := by rw [← HXE.out]; omega
          have HMs := Lib.hid (HS.out.push hlt hk0)
          have e1 : osOf ((tx, tm) :: st) ++ [(i : Int)] = osOf ((i, (l[i]).f5.toNat) :: decT ((tx, tm) :: st)) := by rw [osOf_top i (l[i]).f5.toNat (decT ((tx, tm) :: st)), osOf_dec]
          have e2 : lsOf (decT ((tx, tm) :: st)) ++ [x.f5] = lsOf ((i, (l[i]).f5.toNat) :: decT ((tx, tm) :: st)) := by rw [lsOf_top i (l[i]).f5.toNat (decT ((tx, tm) :: st)), hkx]
          have HIn := HIm.out
          rw [e1, e2] at HIn
          have HIN := Lib.hid HIn
          have HMx : Hid (∀ p ∈ ((i, (l[i]).f5.toNat) :: decT ((tx, tm) :: st)), (p.2 : Int) ≤ 9223372036854775807) := by
            have hx9 : x.f5 ≤ 9223372036854775807 := by rw [HXE.out]; exact HKR.out _ (List.getElem_mem hlt)
            intro p hp
            rcases List.mem_cons.1 hp with rfl | hp
            · omega
            · exact dec_bound HM.out p hp
          have hsn : ((i, (l[i]).f5.toNat) :: decT ((tx, tm) :: st)).length ≤ i + 1 := by rw [List.length_cons, decT_len]; simp only [List.length_cons, List.length_nil]; omega
          clear HIn e1 e2 hk0 hkx HIm HIk HNk HLk HNm HS HM HI_ N_
          generalize ((i, (l[i]).f5.toNat) :: decT ((tx, tm) :: st)) = st0 at *
          go_wp2_with fail
          go_loopw [4, 5] (fun v4 v5 w' => ∃ (st1 : List (Nat × Nat)) (lp1 E1 : List Int), lp1.length = l.length ∧ st1.length ≤ i + 1 ∧ Hid (∀ p ∈ st1, (p.2 : Int) ≤ 9223372036854775807) ∧ Hid (PS w fb #[Value.slice (some ad) l.length c, Value.slice (some ⟨gp, 0, none⟩) l.length cp, Value.slice Ae l.length ce, Value.bool false] (.slice (some ⟨gp, 0, none⟩) l.length cp) (.slice Ae l.length ce) v4 v5 lp1 E1 (osOf st1) (lsOf st1) w') ∧ Hid (MidSt l (i + 1) st1 E1)) (fun v4 _ _ => match v4 with | .slice _ n _ => n | _ => 0)
          case atStart => exact ⟨st0, lpk, E, hlpk, hsn, HMx, HIN, HMs⟩
          case round =>
            try clear HIN HMs HMx
            obtain ⟨st1, lp1, E1, hlp1, hs1, HM1, HI1q, HS1⟩ := hrel
            obtain ⟨Ao1, co1, hvo1, hco1, _⟩ := Kd.R_reads HI1q.out.ro
            rw [osOf_len] at hvo1 hco1
            subst hvo1
            obtain ⟨Al1, cl1, hvl1, hcl1, _⟩ := Kd.R_reads HI1q.out.rl
            rw [lsOf_len] at hvl1 hcl1
            subst hvl1
            cases st1 with
            | nil =>
              go_wp2_with fail
              go_roundw
              case rel => exact ⟨i + 1, [], lp1, E1, by go_num, by omega, hlp1, Nat.zero_le _, HM1, HI1q, ⟨HS1.out, fun _ _ _ h => by cases h⟩⟩
              case measure => simp [intOf]; omega
            | cons xq st1 =>
              obtain ⟨x1, m1⟩ := xq
              have hlen1 : ((x1, m1) :: st1).length = st1.length + 1 := rfl
              rw [hlen1] at HI1q hs1 ⊢
              obtain ⟨go1, rfl, _, _⟩ := form_of HI1q.out.ro (by omega)
              obtain ⟨gl1, rfl, _, _⟩ := form_of HI1q.out.rl (by omega)
              have hwa : IntKind.i64.wrap ((st1.length : Int) + 1 - 1) = (st1.length : Int) := by rw [IntWalk.i64_in _ (by omega)]; omega
              have hwb : IntKind.i64.wrap (st1.length : Int) = (st1.length : Int) := by rw [IntWalk.i64_in _ (by omega)]
              have n3 : (0 : Int) ≤ (st1.length : Int) := Int.natCast_nonneg _
              have n4 : (st1.length : Int) < (st1.length : Int) + 1 := by omega
              have w1 : wr.cell? ⟨gl1, st1.length, none⟩ = some (.int .i64 (m1 : Int)) := cell_of HI1q.out.rl st1.length m1 (by rw [lsOf_top, List.getElem?_append_right (by rw [lsOf_len]; omega), lsOf_len, Nat.sub_self]; rfl)
              cases m1 with
              | succ m =>
                have hb1 : (((m + 1 : Nat) : Int) == 0) = false := beq_eq_false_iff_ne.2 (by omega)
                go_wp2_with fail
                go_roundw
                case rel => exact ⟨i + 1, (x1, m + 1) :: st1, lp1, E1, by go_num, by omega, hlp1, hs1, HM1, HI1q, ⟨HS1.out, fun _ _ _ h => by cases h; omega⟩⟩
                case measure => simp [intOf]; omega
              | zero =>
                obtain ⟨hx1, hpop⟩ := HS1.out.pop (by omega)
                have HPOP := Lib.hid hpop
                obtain ⟨ge, rfl, hge, _⟩ := form_of HI1q.out.re (by omega)
                have HGE : Hid (w.heap.size ≤ ge) := hge
                have w2 : wr.cell? ⟨fb, 2, none⟩ = some (.slice (some ⟨ge, 0, none⟩) l.length ce) := blk_cell HI1q.out.b 2
                have w3 : wr.cell? ⟨go1, st1.length, none⟩ = some (.int .i64 (x1 : Int)) := cell_of HI1q.out.ro st1.length x1 (by rw [osOf_top, List.getElem?_append_right (by rw [osOf_len]; omega), osOf_len, Nat.sub_self]; rfl)
                have n5 : (0 : Int) ≤ (x1 : Int) := Int.natCast_nonneg _
                have n6 : (x1 : Int) < (l.length : Int) := by omega
                have hwi : IntKind.i64.wrap ((i : Int) + 1) = (i : Int) + 1 := IntWalk.i64_in _ (by omega)
                have hEl : E1.length = l.length := HS1.out.ends.1
                obtain ⟨ev, hev⟩ : ∃ ev, E1[x1]? = some ev := ⟨_, List.getElem?_eq_getElem (by omega)⟩
                clear hpop hge
                go_wp2_with fail
                go_still_tail 10, (by kernel_rfl)
                have HIa := Lib.hid (HI1q.out.later (W1 := ({ heap := wr.heap, tape := wr.tape, drawn := wr.drawn + 1, os := wr.os, output := wr.output } : World)) (below_drew (Below.refl _ wr)))
                clear w1 w2 w3 HI1q
                generalize ({ heap := wr.heap, tape := wr.tape, drawn := wr.drawn + 1, os := wr.os, output := wr.output } : World) = Wd2 at *
                have w4 := cell_of HIa.out.re x1 ev hev
                have w5 := froz_of HIa.out.re (by omega) x1
                have HIb := Lib.hid (HIa.out.setE HGE.out x1 ((i : Int) + 1))
                clear HIa hev
                obtain ⟨i0, hi0, _, _, _⟩ := info_parts info3
                simp only [List.length_cons] at hco1 hcl1
                have hcut1 := cut_to (P := Tryd.prog) 95 3 .i64 Tryd.underlying95 hi0 (some ⟨go1, 0, none⟩) (st1.length + 1) co1 (st1.length : Int) n3 (by omega) hco1
                have hcut2 := cut_to (P := Tryd.prog) 95 3 .i64 Tryd.underlying95 hi0 (some ⟨gl1, 0, none⟩) (st1.length + 1) cl1 (st1.length : Int) n3 (by omega) hcl1
                rw [Int.toNat_natCast] at hcut1 hcut2
                go_wp2_with fail
                generalize hWe : Wd2.setCell ⟨ge, x1, none⟩ (.int .i64 ((i : Int) + 1)) = We at *
                clear hWe w4 w5
                have HIc := Lib.hid (fun k => HIb.out.later (pw_below_drewN (Below.refl _ We) k))
                go_quiet (fail)
                go_wp2_with fail
                have hT1 := (HIc.out nq).takeO (m := st1.length) (by rw [osOf_len]; simp) rfl
                have hT2 := hT1.takeL (m := st1.length) (by rw [lsOf_len]; simp) rfl
                rw [osOf_top, lsOf_top, List.take_left' (osOf_len st1), List.take_left' (lsOf_len st1)] at hT2
                have HT2 := Lib.hid hT2
                clear hT1 hT2
                go_roundw
                case rel => exact ⟨st1, lp1, E1.set x1 ((i : Int) + 1), hlp1, by omega, (fun p hp => HM1.out p (by simp [hp])), HT2, HPOP⟩
                case measure => exact Nat.lt_succ_self _
    · have hie : i = l.length := by omega
      subst hie
      have hne : w.heap.size ≠ fb := by have := HFB.out; omega
      have hge : w.heap.size ≤ fb := by have := HFB.out; omega
      have HFN := Lib.hid HS.out.fin
      have HEL : Hid (E.length = l.length) := HS.out.mid.ends.1
      obtain ⟨Ao, co, hvo, hco, _⟩ := Kd.R_reads HI.out.ro
      rw [osOf_len] at hvo
      subst hvo
      have z3 : wr.cell? ⟨fb, 3, none⟩ = some (.bool false) := blk_cell HI.out.b 3
      have z4 : wr.frozen? ⟨fb, 3, none⟩ = false := blk_frozen HI.out.b 3
      cases st with
      | nil =>
        have f0 : (wr.setCell ⟨fb, 3, none⟩ (.bool true)).cell? ⟨fb, 0, none⟩ = some (.slice A l.length c) := blk_cell (blk_set HI.out.b 3 (.bool true)) 0
        have f1 : (wr.setCell ⟨fb, 3, none⟩ (.bool true)).cell? ⟨fb, 1, none⟩ = some (.slice Ap l.length cp) := blk_cell (blk_set HI.out.b 3 (.bool true)) 1
        have f2 : (wr.setCell ⟨fb, 3, none⟩ (.bool true)).cell? ⟨fb, 2, none⟩ = some (.slice Ae l.length ce) := blk_cell (blk_set HI.out.b 3 (.bool true)) 2
        have f3 : (wr.setCell ⟨fb, 3, none⟩ (.bool true)).cell? ⟨fb, 3, none⟩ = some (.bool true) := blk_cell (blk_set HI.out.b 3 (.bool true)) 3
        have e0 : (wr.setCell ⟨fb, 3, none⟩ (.bool true)).cell? ⟨w.heap.size, 0, none⟩ = some (.slice none 0 0) := blk_cell (blk_far HI.out.rb (p := ⟨fb, 3, none⟩) hne (.bool true)) 0
        have r0 : (wr.setCell ⟨fb, 3, none⟩ (.bool true)).frozen? ⟨w.heap.size, 0, none⟩ = false := blk_frozen (blk_far HI.out.rb (p := ⟨fb, 3, none⟩) hne (.bool true)) 0
        have e1 : (wr.setCell ⟨fb, 3, none⟩ (.bool true)).cell? ⟨w.heap.size, 1, none⟩ = some (.slice none 0 0) := blk_cell (blk_far HI.out.rb (p := ⟨fb, 3, none⟩) hne (.bool true)) 1
        have r1 : (wr.setCell ⟨fb, 3, none⟩ (.bool true)).frozen? ⟨w.heap.size, 1, none⟩ = false := blk_frozen (blk_far HI.out.rb (p := ⟨fb, 3, none⟩) hne (.bool true)) 1
        have e2 : (wr.setCell ⟨fb, 3, none⟩ (.bool true)).cell? ⟨w.heap.size, 2, none⟩ = some (.slice none 0 0) := blk_cell (blk_far HI.out.rb (p := ⟨fb, 3, none⟩) hne (.bool true)) 2
        have r2 : (wr.setCell ⟨fb, 3, none⟩ (.bool true)).frozen? ⟨w.heap.size, 2, none⟩ = false := blk_frozen (blk_far HI.out.rb (p := ⟨fb, 3, none⟩) hne (.bool true)) 2
        have e3 : (wr.setCell ⟨fb, 3, none⟩ (.bool true)).cell? ⟨w.heap.size, 3, none⟩ = some (.bool false) := blk_cell (blk_far HI.out.rb (p := ⟨fb, 3, none⟩) hne (.bool true)) 3
        have r3 : (wr.setCell ⟨fb, 3, none⟩ (.bool true)).frozen? ⟨w.heap.size, 3, none⟩ = false := blk_frozen (blk_far HI.out.rb (p := ⟨fb, 3, none⟩) hne (.bool true)) 3
        go_wp2_with fail
        refine bodyPost_ret (results_cell_row rfl _ _ w.heap.size 221 #[.slice A l.length c, .slice Ap l.length cp, .slice Ae l.length ce, .bool true] (0, 0) _ rfl (blk_set (blk_set (blk_set (blk_set (blk_far HI.out.rb (p := ⟨fb, 3, none⟩) hne (.bool true)) 0 (.slice A l.length c)) 1 (.slice Ap l.length cp)) 2 (.slice Ae l.length ce)) 3 (.bool true)) Tryd.underlying221 rfl (by kernel_rfl)) rfl ?_
        have hrd := Kd.R_reads' (Kd.R_set (Kd.R_set (Kd.R_set (Kd.R_set (Kd.R_set HI.out.re HI.out.b (by decide) 3 (.bool true)) (blk_far HI.out.rb (p := ⟨fb, 3, none⟩) hne (.bool true)) (by decide) 0 (.slice A l.length c)) (blk_set (blk_far HI.out.rb (p := ⟨fb, 3, none⟩) hne (.bool true)) 0 (.slice A l.length c)) (by decide) 1 (.slice Ap l.length cp)) (blk_set (blk_set (blk_far HI.out.rb (p := ⟨fb, 3, none⟩) hne (.bool true)) 0 (.slice A l.length c)) 1 (.slice Ap l.length cp)) (by decide) 2 (.slice Ae l.length ce)) (blk_set (blk_set (blk_set (blk_far HI.out.rb (p := ⟨fb, 3, none⟩) hne (.bool true)) 0 (.slice A l.length c)) 1 (.slice Ap l.length cp)) 2 (.slice Ae l.length ce)) (by decide) 3 (.bool true))
        have hE1 := hrd.2.2
        rw [HEL.out] at hE1
        have hrun : run 0 l = true := HFN.out.1.trans (by simp)
        first | exact ⟨Ap, l.length, cp, Ae, ce, E, (by rw [hrun]), HEL.out, HCE.out, hE1, (fun _ => HFN.out.2 (by first | rfl | trivial)), (below_set (below_set (below_set (below_set (below_set HI.out.below hge) (Nat.le_refl _)) (Nat.le_refl _)) (Nat.le_refl _)) (Nat.le_refl _))⟩ | exact ⟨Ap, l.length, cp, Ae, ce, (by rw [hrun]), E, HEL.out, HCE.out, hE1, (fun _ => HFN.out.2 (by first | rfl | trivial)), (below_set (below_set (below_set (below_set (below_set HI.out.below hge) (Nat.le_refl _)) (Nat.le_refl _)) (Nat.le_refl _)) (Nat.le_refl _))⟩
      | cons xm st =>
        have hq1 : (((st.length : Int) + 1) == 0) = false := beq_eq_false_iff_ne.2 (by omega)
        have f0 : (wr.setCell ⟨fb, 3, none⟩ (.bool false)).cell? ⟨fb, 0, none⟩ = some (.slice A l.length c) := blk_cell (blk_set HI.out.b 3 (.bool false)) 0
        have f1 : (wr.setCell ⟨fb, 3, none⟩ (.bool false)).cell? ⟨fb, 1, none⟩ = some (.slice Ap l.length cp) := blk_cell (blk_set HI.out.b 3 (.bool false)) 1
        have f2 : (wr.setCell ⟨fb, 3, none⟩ (.bool false)).cell? ⟨fb, 2, none⟩ = some (.slice Ae l.length ce) := blk_cell (blk_set HI.out.b 3 (.bool false)) 2
        have f3 : (wr.setCell ⟨fb, 3, none⟩ (.bool false)).cell? ⟨fb, 3, none⟩ = some (.bool false) := blk_cell (blk_set HI.out.b 3 (.bool false)) 3
        have e0 : (wr.setCell ⟨fb, 3, none⟩ (.bool false)).cell? ⟨w.heap.size, 0, none⟩ = some (.slice none 0 0) := blk_cell (blk_far HI.out.rb (p := ⟨fb, 3, none⟩) hne (.bool false)) 0
        have r0 : (wr.setCell ⟨fb, 3, none⟩ (.bool false)).frozen? ⟨w.heap.size, 0, none⟩ = false := blk_frozen (blk_far HI.out.rb (p := ⟨fb, 3, none⟩) hne (.bool false)) 0
        have e1 : (wr.setCell ⟨fb, 3, none⟩ (.bool false)).cell? ⟨w.heap.size, 1, none⟩ = some (.slice none 0 0) := blk_cell (blk_far HI.out.rb (p := ⟨fb, 3, none⟩) hne (.bool false)) 1
        have r1 : (wr.setCell ⟨fb, 3, none⟩ (.bool false)).frozen? ⟨w.heap.size, 1, none⟩ = false := blk_frozen (blk_far HI.out.rb (p := ⟨fb, 3, none⟩) hne (.bool false)) 1
        have e2 : (wr.setCell ⟨fb, 3, none⟩ (.bool false)).cell? ⟨w.heap.size, 2, none⟩ = some (.slice none 0 0) := blk_cell (blk_far HI.out.rb (p := ⟨fb, 3, none⟩) hne (.bool false)) 2
        have r2 : (wr.setCell ⟨fb, 3, none⟩ (.bool false)).frozen? ⟨w.heap.size, 2, none⟩ = false := blk_frozen (blk_far HI.out.rb (p := ⟨fb, 3, none⟩) hne (.bool false)) 2
        have e3 : (wr.setCell ⟨fb, 3, none⟩ (.bool false)).cell? ⟨w.heap.size, 3, none⟩ = some (.bool false) := blk_cell (blk_far HI.out.rb (p := ⟨fb, 3, none⟩) hne (.bool false)) 3
        have r3 : (wr.setCell ⟨fb, 3, none⟩ (.bool false)).frozen? ⟨w.heap.size, 3, none⟩ = false := blk_frozen (blk_far HI.out.rb (p := ⟨fb, 3, none⟩) hne (.bool false)) 3
        go_wp2_with fail
        refine bodyPost_ret (results_cell_row rfl _ _ w.heap.size 221 #[.slice A l.length c, .slice Ap l.length cp, .slice Ae l.length ce, .bool false] (0, 0) _ rfl (blk_set (blk_set (blk_set (blk_set (blk_far HI.out.rb (p := ⟨fb, 3, none⟩) hne (.bool false)) 0 (.slice A l.length c)) 1 (.slice Ap l.length cp)) 2 (.slice Ae l.length ce)) 3 (.bool false)) Tryd.underlying221 rfl (by kernel_rfl)) rfl ?_
        have hrd := Kd.R_reads' (Kd.R_set (Kd.R_set (Kd.R_set (Kd.R_set (Kd.R_set HI.out.re HI.out.b (by decide) 3 (.bool false)) (blk_far HI.out.rb (p := ⟨fb, 3, none⟩) hne (.bool false)) (by decide) 0 (.slice A l.length c)) (blk_set (blk_far HI.out.rb (p := ⟨fb, 3, none⟩) hne (.bool false)) 0 (.slice A l.length c)) (by decide) 1 (.slice Ap l.length cp)) (blk_set (blk_set (blk_far HI.out.rb (p := ⟨fb, 3, none⟩) hne (.bool false)) 0 (.slice A l.length c)) 1 (.slice Ap l.length cp)) (by decide) 2 (.slice Ae l.length ce)) (blk_set (blk_set (blk_set (blk_far HI.out.rb (p := ⟨fb, 3, none⟩) hne (.bool false)) 0 (.slice A l.length c)) 1 (.slice Ap l.length cp)) 2 (.slice Ae l.length ce)) (by decide) 3 (.bool false))
        have hE1 := hrd.2.2
        rw [HEL.out] at hE1
        have hrun : run 0 l = false := HFN.out.1.trans (by simp)
        first | exact ⟨Ap, l.length, cp, Ae, ce, E, (by rw [hrun]), HEL.out, HCE.out, hE1, (fun h => by rw [hrun] at h; cases h), (below_set (below_set (below_set (below_set (below_set HI.out.below hge) (Nat.le_refl _)) (Nat.le_refl _)) (Nat.le_refl _)) (Nat.le_refl _))⟩ | exact ⟨Ap, l.length, cp, Ae, ce, (by rw [hrun]), E, HEL.out, HCE.out, hE1, (fun h => by rw [hrun] at h; cases h), (below_set (below_set (below_set (below_set (below_set HI.out.below hge) (Nat.le_refl _)) (Nat.le_refl _)) (Nat.le_refl _)) (Nat.le_refl _))⟩
end Paint
end Go.Proofs.YtcijanmckhlpiaaDoor
