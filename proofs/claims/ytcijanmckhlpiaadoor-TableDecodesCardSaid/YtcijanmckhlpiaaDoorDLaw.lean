import Derived.Test.YtcijanmckhlpiaaDoorDDecode
import Derived.Test.YtcijanmckhlpiaaDoorRDecode
import Derived.Test.YtcijanmckhlpiaaDoorDTold
import Derived.Test.YtcijanmckhlpiaaDoorDSame
namespace Go.Proofs.YtcijanmckhlpiaaDoor
open Go.RowKit Go.Proofs.YtcijanmckhlpiaaDoorW.PrintWords Go.Proofs.YtcijanmckhlpiaaDoorW.PrintLast Go.Proofs.YtcijanmckhlpiaaDoorW.PrintMore Go.Proofs.YtcijanmckhlpiaaDoor.PTableDecodes
set_option linter.unusedVariables false
set_option linter.unusedSimpArgs false
namespace Dec
theorem many_all {α : Type} {rd : Nat → Except Nat (α × Nat)} {P : α → Prop} (hP : ∀ p x q, rd p = .ok (x, q) → P x) : ∀ {m p : Nat} {l : List α} {r : Nat}, many rd m p = .ok (l, r) → ∀ x ∈ l, P x := by
  intro m
  induction m with
  | zero => intro p l r h x hx; simp [many] at h; rw [h.1] at hx; cases hx
  | succ m ih =>
    intro p l r h
    simp only [many] at h
    rcases hr : rd p with _ | ⟨y, q⟩
    · rw [hr] at h; cases h
    · rw [hr] at h
      simp only at h
      rcases hm : many rd m q with _ | ⟨l', r'⟩
      · rw [hm] at h; cases h
      · rw [hm] at h
        cases h
        intro x hx
        rcases List.mem_cons.1 hx with rfl | hx
        · exact hP _ _ _ hr
        · exact ih hm x hx
theorem bodS_sizes {s : ByteArray} {st te sy p : Nat} {rows : List (List S93)} {gos : List (List Int)} (h : bodS s st te sy p = .ok (rows, gos)) : rows.length = st ∧ gos.length = st ∧ (∀ x ∈ rows, x.length = te) ∧ (∀ x ∈ gos, x.length = sy) := by
  unfold bodS at h
  rw [Int.toNat_natCast] at h
  rcases hA : many (many (actR s st) te) st p with _ | ⟨l, q⟩
  · rw [hA] at h; cases h
  · rw [hA] at h
    simp only at h
    rcases hG : many (many (goR s st) sy) st q with _ | ⟨m, q'⟩
    · rw [hG] at h; cases h
    · rw [hG] at h
      simp only at h
      split at h
      · cases h
      · cases h
        exact ⟨many_length hA, many_length hG, many_all (fun _ _ _ h => many_length h) hA, many_all (fun _ _ _ h => many_length h) hG⟩
theorem decS_sizes {s : ByteArray} {rows : List (List S93)} {gos : List (List Int)} (h : decS s = .ok (rows, gos)) : rows.length ≤ 2048 ∧ gos.length ≤ 2048 ∧ (∀ x ∈ rows, x.length ≤ 64) ∧ (∀ x ∈ gos, x.length ≤ 128) := by
  unfold decS at h
  split at h
  · cases h
  · split at h
    · cases h
    · unfold tabS at h
      rcases h1 : within s 1 2048 2 with _ | ⟨st, p1⟩
      · rw [h1] at h; cases h
      · rw [h1] at h
        simp only at h
        rcases h2 : within s 1 64 p1 with _ | ⟨te, p2⟩
        · rw [h2] at h; cases h
        · rw [h2] at h
          simp only at h
          rcases h3 : within s 0 128 p2 with _ | ⟨sy, p3⟩
          · rw [h3] at h; cases h
          · rw [h3] at h
            simp only at h
            have b1 := within_bound h1
            have b2 := within_bound h2
            have b3 := within_bound h3
            simp only at b1 b2 b3
            obtain ⟨n, rfl⟩ := Int.eq_ofNat_of_zero_le (show 0 ≤ st by omega)
            obtain ⟨a, b, c, d⟩ := bodS_sizes h
            exact ⟨by omega, by omega, fun x hx => by have := c x hx; omega, fun x hx => by have := d x hx; omega⟩
set_option maxRecDepth 100000 in
set_option maxHeartbeats 4000000 in
theorem law_any (s : ByteArray) (w : World) (hs : s.size ≤ 140737488351232) (hg : ErrType w) :
    Calls Tryd.prog 3 #[.string s] w fun e w' => e = .returned (.bool true) ∧ Below w.heap.size w w' := by
  have HG := Lib.hid hg
  clear hg
  go_enter Tryd.func3, Tryd.ntmps3
  go_wp2_with fail
  refine (decode_any s w hs).mono ?_
  rintro e w1 ⟨hb1, hT⟩
  have HG1 := Lib.hid (HG.out.below hb1)
  have HB1 := Lib.hid hb1
  clear hb1
  have HRD := fun W => Lib.hid (rdecode_any s W hs)
  rcases hd : decS s with p | ⟨rows, gos⟩
  · rw [hd] at hT HRD
    obtain ⟨ev, rfl, b, hb, rfl, hbk⟩ := hT
    have HBK := Lib.hid hbk
    obtain ⟨k, hk⟩ := (same_ev [] [] (by decide) (by decide) (by simp) (by simp)).rounds
    have HK := Lib.hid hk
    clear hbk hk hd
    go_wp2_with fail
    have HB2 := Lib.hid (below_alloc HB1.out (.cells #[nilS, nilS] 25))
    have HG2 := Lib.hid (HG1.out.below (below_alloc (Below.refl _ w1) (.cells #[nilS, nilS] 25)))
    have HBK2 := Lib.hid (blk_alloc HBK.out (.cells #[nilS, nilS] 25))
    have HX2 := Lib.hid (blk_new w1 (.cells #[nilS, nilS] 25))
    refine (HRD _).out.mono ?_
    rintro e w3 ⟨hb3, rfl⟩
    have HB3 := Lib.hid (below_step HB2.out hb3)
    have HG3 := Lib.hid (HG2.out.below hb3)
    have HBK3 := Lib.hid (blk_below HBK2.out hb3)
    have HX3 := Lib.hid (blk_below HX2.out hb3)
    have hs3 := hb3.size
    rw [World.size_alloc] at hs3
    clear hb3 HB1 HB2 HG1 HG2 HBK HBK2 HX2
    go_wp2_with fail
    have HB4 := Lib.hid (below_alloc HB3.out (.cells #[nilS, nilS] 25))
    have HG4 := Lib.hid (HG3.out.below (below_alloc (Below.refl _ w3) (.cells #[nilS, nilS] 25)))
    have HBK4 := Lib.hid (blk_alloc HBK3.out (.cells #[nilS, nilS] 25))
    have HX4 := Lib.hid (blk_alloc HX3.out (.cells #[nilS, nilS] 25))
    have HY4 := Lib.hid (blk_new w3 (.cells #[nilS, nilS] 25))
    refine (told_bad b 131 (p : Int) _ HG4.out HBK4.out).mono ?_
    rintro e w5 ⟨rfl, hb5⟩
    have HB5 := Lib.hid (below_step HB4.out hb5)
    have HX5 := Lib.hid (blk_below HX4.out hb5)
    have HY5 := Lib.hid (blk_below HY4.out hb5)
    clear hb5 HB3 HB4 HG3 HG4 HBK3 HBK4 HX3 HX4 HY4
    have hx0 := blk_cell HX5.out 0
    have hx1 := blk_cell HX5.out 1
    have hy0 := blk_cell HY5.out 0
    have hy1 := blk_cell HY5.out 1
    simp at hx0 hx1 hy0 hy1
    go_wp2_with (go_at_call 12; refine (trellislaw13_same.calls k none 0 [] none 0 [] none 0 [] none 0 [] true _ (Kd.C_nil _ _) (Nat.le_refl _) (Kd.C_nil _ _) (Nat.le_refl _) (Kd.C_nil _ _) (Nat.le_refl _) (Kd.C_nil _ _) (Nat.le_refl _) HK.out).mono ?_; rintro e w6 ⟨rfl, hb6⟩)
    go_ret
    exact ⟨rfl, below_step HB5.out hb6⟩
  · have hz := decS_sizes hd
    rw [hd] at hT HRD
    obtain ⟨vA, vG, rfl, hA, hG⟩ := hT
    obtain ⟨k, hk⟩ := (same_ev rows gos (by omega) (by omega) (fun x hx => by have := hz.2.2.1 x hx; omega) (fun x hx => by have := hz.2.2.2 x hx; omega)).rounds
    have HK := Lib.hid hk
    obtain ⟨AA, cA, eA⟩ := Kd.R_slice hA
    obtain ⟨AG, cG, eG⟩ := Kd.R_slice hG
    subst eA
    subst eG
    simp only at hA hG
    have HA := Lib.hid hA
    have HGo := Lib.hid hG
    clear hk hd hz hA hG
    go_wp2_with fail
    have HB2 := Lib.hid (below_alloc HB1.out (.cells #[.slice AA rows.length cA, .slice AG gos.length cG] 25))
    have HX2 := Lib.hid (blk_new w1 (.cells #[.slice AA rows.length cA, .slice AG gos.length cG] 25))
    have HA2 := Lib.hid (Kd.R_alloc HA.out (.cells #[.slice AA rows.length cA, .slice AG gos.length cG] 25))
    have HGo2 := Lib.hid (Kd.R_alloc HGo.out (.cells #[.slice AA rows.length cA, .slice AG gos.length cG] 25))
    refine (HRD _).out.mono ?_
    rintro e w3 ⟨hb3, vB, vH, rfl, hB, hH⟩
    obtain ⟨AB, cB, eB⟩ := Kd.R_slice hB
    obtain ⟨AH, cH, eH⟩ := Kd.R_slice hH
    subst eB
    subst eH
    simp only at hB hH
    have HBb := Lib.hid hB
    have HHh := Lib.hid hH
    have HB3 := Lib.hid (below_step HB2.out hb3)
    have HX3 := Lib.hid (blk_below HX2.out hb3)
    have HA3 := Lib.hid (Kd.R_below HA2.out hb3)
    have HGo3 := Lib.hid (Kd.R_below HGo2.out hb3)
    have hs3 := hb3.size
    rw [World.size_alloc] at hs3
    clear hb3 HB1 HB2 HX2 HA HGo HA2 HGo2 hB hH
    have hx0 := blk_cell HX3.out 0
    have hx1 := blk_cell HX3.out 1
    simp at hx0 hx1
    have hlt : w1.heap.size < w3.heap.size := by omega
    obtain ⟨_, a1, a2⟩ := Kd.R_reads' (Kd.R_alloc HA3.out (.cells #[.slice AB rows.length cB, .slice AH gos.length cH] 25))
    obtain ⟨_, b1, b2⟩ := Kd.R_reads' (Kd.R_alloc HGo3.out (.cells #[.slice AB rows.length cB, .slice AH gos.length cH] 25))
    obtain ⟨_, c1, c2⟩ := Kd.R_reads' (Kd.R_alloc HBb.out (.cells #[.slice AB rows.length cB, .slice AH gos.length cH] 25))
    obtain ⟨_, d1, d2⟩ := Kd.R_reads' (Kd.R_alloc HHh.out (.cells #[.slice AB rows.length cB, .slice AH gos.length cH] 25))
    have HS := Lib.hid (trellislaw13_same.calls k AA cA rows AG cG gos AB cB rows AH cH gos true _ a2 a1 b2 b1 c2 c1 d2 d1 HK.out)
    clear a1 a2 b1 b2 c1 c2 d1 d2
    go_wp2_with (first | (go_at_call 11; refine (told_nil _).mono ?_; rintro e w5 ⟨rfl, rfl⟩) | (go_at_call 12; refine HS.out.mono ?_; rintro e w6 ⟨rfl, hb6⟩))
    go_ret
    exact ⟨rfl, below_step (below_alloc HB3.out _) hb6⟩
end Dec
end Go.Proofs.YtcijanmckhlpiaaDoor
