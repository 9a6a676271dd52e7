import Derived.Test.YtcijanmckhlpiaaDoorPaintClass
namespace Go.Proofs.YtcijanmckhlpiaaDoor
open Go.RowKit Go.Proofs.YtcijanmckhlpiaaDoorW.PrintWords Go.Proofs.YtcijanmckhlpiaaDoorW.PrintLast Go.Proofs.YtcijanmckhlpiaaDoorW.PrintMore Go.Proofs.YtcijanmckhlpiaaDoor.PPaintLines
set_option linter.unusedVariables false
set_option linter.unusedSimpArgs false
namespace Paint
theorem lines_any (A : Option Addr) (c : Nat) (l : List PD) (w : World) (hr : kPD.C w A l.length l) (hz : l.length ≤ 1048576) (hs : ∀ x ∈ l, x.1.size ≤ maxLen) :
    Calls Tryd.prog 37 #[LG (.slice A l.length c)] w fun e W' => ∃ b D, e = .returned (.map (some b)) ∧ W'.ownsMap Tryd.prog 9 (plainElem (H := Unit) Tryd.prog 3) b l.length D ∧ LM D l 0 ∧ w.heap.size ≤ b ∧ Below w.heap.size w W' :=
  (callsIn_wide (n := 3)).1 (lines_in Fence.wide 3 trivial trivial trivial rfl (by omega) A c l w hr hz hs)
set_option maxRecDepth 100000 in
set_option maxHeartbeats 4000000 in
theorem Class_any (A : Option Addr) (c : Nat) (l : List PD) (B : Option Addr) (d : Nat) (t : List S100) (a : Int) (w : World) (hr : kPD.C w A l.length l) (hz : l.length ≤ 1048576) (hrt : k100.C w B t.length t) (hd : t.length ≤ d) (hzt : t.length ≤ 1048576)
    (hsl : ∀ x ∈ l, x.1.size ≤ maxLen) (hkr : ∀ x ∈ t, x.f5 ≤ 9223372036854775807) (hst : ∀ x ∈ t, x.f0.size ≤ maxLen) :
    Calls Tryd.prog 35 #[LG (.slice A l.length c), .slice B t.length d, .int .i64 a] w fun e w' => e = .returned (.string (classAll l t a)) ∧ Below w.heap.size w w' := by
  have HR := Lib.hid hr
  have HRT := Lib.hid hrt
  have HL : Hid (∀ W, kPD.C W A l.length l → Calls Tryd.prog 37 #[LG (.slice A l.length c)] W fun e W' => ∃ b D, e = .returned (.map (some b)) ∧ W'.ownsMap Tryd.prog 9 (plainElem (H := Unit) Tryd.prog 3) b l.length D ∧ LM D l 0 ∧ W.heap.size ≤ b ∧ Below W.heap.size W W') := fun W h => lines_any A c l W h hz hsl
  have HC : Hid (∀ W b n0 D, kPD.C W A l.length l → k100.C W B t.length t → W.ownsMap Tryd.prog 9 (plainElem (H := Unit) Tryd.prog 3) b n0 D → LM D l 0 → Calls Tryd.prog 39 #[LG (.slice A l.length c), .map (some b), .slice B t.length d, .int .i64 a] W fun e W' => e = .returned (.string (clsS l t (pathAll t a).reverse)) ∧ Below W.heap.size W W') := fun W b n0 D h1 h2 h3 h4 => class_any A c l B d t a b n0 D W h1 hz h2 hd hzt hkr hst h3 h4
  have HCA : Hid (classAll l t a = if a < 0 then ⟨#[]⟩ else clsS l t (pathAll t a).reverse) := rfl
  clear hr hrt hsl hkr hst
  generalize clsS l t (pathAll t a).reverse = sv at *
  unfold LG at *
  have HX := Lib.hid (blk_new w (.cells #[.string ⟨#[]⟩, .slice none 0 0, .slice none 0 0, .slice none 0 0, .slice none 0 0, .slice none 0 0, .slice none 0 0, .slice none 0 0, .slice A l.length c, .slice none 0 0, .slice none 0 0, .slice none 0 0] 57))
  have HB := Lib.hid (below_alloc (Below.refl _ w) (.cells #[.string ⟨#[]⟩, .slice none 0 0, .slice none 0 0, .slice none 0 0, .slice none 0 0, .slice none 0 0, .slice none 0 0, .slice none 0 0, .slice A l.length c, .slice none 0 0, .slice none 0 0, .slice none 0 0] 57))
  go_enter Tryd.func35, Tryd.ntmps35
  have tok : True := trivial
  by_cases ha : a < 0
  · have hab : decide (a < 0) = true := decide_eq_true ha
    have HC' := HCA
    rw [if_pos ha] at HC'
    go_wp2_with fail
    go_ret
    exact ⟨by rw [HC'.out]; rfl, HB.out⟩
  · have hab : decide (a < 0) = false := decide_eq_false ha
    have HC' := HCA
    rw [if_neg ha] at HC'
    go_wp2_with fail
    generalize w.alloc (.cells #[.string ⟨#[]⟩, .slice none 0 0, .slice none 0 0, .slice none 0 0, .slice none 0 0, .slice none 0 0, .slice none 0 0, .slice none 0 0, .slice A l.length c, .slice none 0 0, .slice none 0 0, .slice none 0 0] 57) = w0 at *
    have HRA := Lib.hid (Kd.C_below HR.out HB.out)
    refine start_ (n := 7) (S := fun w' => w'.cell? ⟨w.heap.size, 0, none⟩ = some (.string ⟨#[]⟩) ∧ w'.cell? ⟨w.heap.size, 1, none⟩ = some (.slice none 0 0) ∧ w'.cell? ⟨w.heap.size, 2, none⟩ = some (.slice none 0 0) ∧ w'.cell? ⟨w.heap.size, 3, none⟩ = some (.slice none 0 0) ∧ w'.cell? ⟨w.heap.size, 4, none⟩ = some (.slice none 0 0) ∧ w'.cell? ⟨w.heap.size, 5, none⟩ = some (.slice none 0 0) ∧ w'.cell? ⟨w.heap.size, 6, none⟩ = some (.slice none 0 0) ∧ w'.cell? ⟨w.heap.size, 7, none⟩ = some (.slice none 0 0) ∧ w'.cell? ⟨w.heap.size, 8, none⟩ = some (.slice A l.length c) ∧ w'.cell? ⟨w.heap.size, 9, none⟩ = some (.slice none 0 0) ∧ w'.cell? ⟨w.heap.size, 10, none⟩ = some (.slice none 0 0) ∧ w'.cell? ⟨w.heap.size, 11, none⟩ = some (.slice none 0 0)) (ds := []) #[false, false, false, false, false, false, false] (by kernel_rfl) rfl rfl ⟨blk_cell HX.out 0, blk_cell HX.out 1, blk_cell HX.out 2, blk_cell HX.out 3, blk_cell HX.out 4, blk_cell HX.out 5, blk_cell HX.out 6, blk_cell HX.out 7, blk_cell HX.out 8, blk_cell HX.out 9, blk_cell HX.out 10, blk_cell HX.out 11⟩ (fun hHeld => ?_)
    refine pure_ (i := 3) (N := some 12) (v := ?_) (a' := ?_) #[false, false, false, true, false, false, false] rfl rfl (by kernel_rfl) (fun _ _ _ h => h) (Or.inl ⟨by rfl, ?_⟩) ?_ ?_
    rotate_left
    · intro w'
      go_simp
      with_reducible rfl
    rotate_left
    · simp only [Act.put, List.setIfInBounds_toArray, List.set_cons_zero, List.set_cons_succ, i64_w, i32_w]
      rfl
    refine pure_ (i := 4) (N := some 13) (v := ?_) (a' := ?_) #[false, false, false, true, true, false, false] rfl rfl (by kernel_rfl) (fun _ _ _ h => h) (Or.inl ⟨by rfl, ?_⟩) ?_ ?_
    rotate_left
    · intro w'
      go_simp
      with_reducible rfl
    rotate_left
    · simp only [Act.put, List.setIfInBounds_toArray, List.set_cons_zero, List.set_cons_succ, i64_w, i32_w]
      rfl
    refine take_ (i := 0) (N := some 9) (v := ?_) (a' := ?_) #[true, false, false, true, true, false, false] rfl rfl (by kernel_rfl) (fun _ _ _ h => h) (Or.inl ⟨by rfl, ?_⟩) hHeld ?_ ?_
    rotate_left
    · rintro w' ⟨s0, s1, s2, s3, s4, s5, s6, s7, s8, s9, s10, s11⟩
      go_simp
      with_reducible rfl
    rotate_left
    · simp only [Act.put, List.setIfInBounds_toArray, List.set_cons_zero, List.set_cons_succ, i64_w, i32_w]
      rfl
    refine take_ (i := 1) (N := some 10) (v := ?_) (a' := ?_) #[true, true, false, true, true, false, false] rfl rfl (by kernel_rfl) (fun _ _ _ h => h) (Or.inl ⟨by rfl, ?_⟩) hHeld ?_ ?_
    rotate_left
    · rintro w' ⟨s0, s1, s2, s3, s4, s5, s6, s7, s8, s9, s10, s11⟩
      go_simp
      with_reducible rfl
    rotate_left
    · simp only [Act.put, List.setIfInBounds_toArray, List.set_cons_zero, List.set_cons_succ, i64_w, i32_w]
      rfl
    refine one_ (i := 2) (N := some 11) #[true, true, true, true, true, false, false] rfl rfl (by kernel_rfl) (by decide) (fun K hK => ?_)
    refine goes_ Tryd.func37 (by kernel_rfl) rfl #[.agg #[.string ⟨#[]⟩, .slice none 0 0, .slice none 0 0, .slice none 0 0, .slice none 0 0, .slice none 0 0, .slice none 0 0, .slice none 0 0, .slice A l.length c, .slice none 0 0, .slice none 0 0, .slice none 0 0]] (by rfl) rfl rfl (by simp only [List.map_toArray, List.map_cons, List.map_nil]; rfl) ?_
    with_reducible refine ((HL.out w0.drew (Kd.C_drew HRA.out))).mono ?_
    rintro e W2 ⟨b, D, rfl, hm, hlm, hb2, hbel⟩
    refine ⟨_, rfl, ?_⟩
    have HX2 := Lib.hid (blk_below (show w0.drew.heap[w.heap.size]? = _ from HX.out) hbel)
    have HM2 := Lib.hid hm
    have HLM := Lib.hid hlm
    have HB2 := Lib.hid (below_step HB.out.drew hbel)
    clear hm hlm hb2 hbel
    refine hK.out _ _ ⟨blk_cell HX2.out 0, blk_cell HX2.out 1, blk_cell HX2.out 2, blk_cell HX2.out 3, blk_cell HX2.out 4, blk_cell HX2.out 5, blk_cell HX2.out 6, blk_cell HX2.out 7, blk_cell HX2.out 8, blk_cell HX2.out 9, blk_cell HX2.out 10, blk_cell HX2.out 11⟩ (fun hHeld => ?_)
    clear hK K
    refine norm_ (a' := ?_) ?_ ?_
    rotate_left
    · show Act.put _ (some 11) _ = _
      simp only [Act.put, List.setIfInBounds_toArray, List.set_cons_zero, List.set_cons_succ, i64_w, i32_w]
      rfl
    refine one_ (i := 5) (N := some 14) #[true, true, true, true, true, true, false] rfl rfl (by kernel_rfl) (by decide) (fun K hK => ?_)
    refine goes_ Tryd.func39 (by kernel_rfl) rfl #[.agg #[.string ⟨#[]⟩, .slice none 0 0, .slice none 0 0, .slice none 0 0, .slice none 0 0, .slice none 0 0, .slice none 0 0, .slice none 0 0, .slice A l.length c, .slice none 0 0, .slice none 0 0, .slice none 0 0], .map (some b), .slice B t.length d, .int .i64 a] (by rfl) rfl rfl (by simp only [List.map_toArray, List.map_cons, List.map_nil]; rfl) ?_
    with_reducible refine ((HC.out W2 b l.length D (Kd.C_below HR.out HB2.out) (Kd.C_below HRT.out HB2.out) HM2.out HLM.out)).mono ?_
    rintro e W3 ⟨rfl, hbel⟩
    refine ⟨_, rfl, ?_⟩
    have HX3 := Lib.hid (blk_below HX2.out hbel)
    have HB3 := Lib.hid (below_step HB2.out hbel)
    clear hbel
    refine hK.out _ _ ⟨blk_cell HX3.out 0, blk_cell HX3.out 1, blk_cell HX3.out 2, blk_cell HX3.out 3, blk_cell HX3.out 4, blk_cell HX3.out 5, blk_cell HX3.out 6, blk_cell HX3.out 7, blk_cell HX3.out 8, blk_cell HX3.out 9, blk_cell HX3.out 10, blk_cell HX3.out 11⟩ (fun hHeld => ?_)
    clear hK K
    refine norm_ (a' := ?_) ?_ ?_
    rotate_left
    · show Act.put _ (some 14) _ = _
      simp only [Act.put, List.setIfInBounds_toArray, List.set_cons_zero, List.set_cons_succ, i64_w, i32_w]
      rfl
    refine pure_ (i := 6) (N := some 6) (v := ?_) (a' := ?_) #[true, true, true, true, true, true, true] rfl rfl (by kernel_rfl) (fun _ _ _ h => h) (Or.inl ⟨by rfl, ?_⟩) ?_ ?_
    rotate_left
    · intro w'
      go_simp
      with_reducible rfl
    rotate_left
    · simp only [Act.put, List.setIfInBounds_toArray, List.set_cons_zero, List.set_cons_succ, i64_w, i32_w]
      rfl
    refine done_ (by kernel_rfl) ?_
    go_wp2_with fail
    go_ret
    exact ⟨by rw [HC'.out]; rfl, HB3.out⟩
end Paint
end Go.Proofs.YtcijanmckhlpiaaDoor
