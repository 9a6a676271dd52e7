-- Texts of this seat, cut to what is used and merged (by shake.py).
import Derived.Test.YtcijanmckhlpiaaDoorTr19
namespace Go.Proofs.YtcijanmckhlpiaaDoor
open Go.RowKit Go.Proofs.YtcijanmckhlpiaaDoorW.PrintWords Go.Proofs.YtcijanmckhlpiaaDoorW.PrintLast Go.Proofs.YtcijanmckhlpiaaDoorW.PrintMore Go.Proofs.YtcijanmckhlpiaaDoor.PTableBack
set_option linter.unusedVariables false
set_option linter.unusedSimpArgs false
namespace Dec
set_option maxRecDepth 100000 in
set_option maxHeartbeats 4000000 in
theorem decode_any (s : ByteArray) (w : World) (hs : s.size ≤ 140737488351232) :
    Calls Tryd.prog 9 #[.string s] w fun e w' => Below w.heap.size w w' ∧ TabE (decS s) w w w' e := by
  have HX := Lib.hid (blk_alloc (blk_new w (.cells #[nilS, nilS] 25)) (.cells #[.int .u8 84, .int .u8 1] 5))
  have hY := blk_new (w.alloc (.cells #[nilS, nilS] 25)) (.cells #[.int .u8 84, .int .u8 1] 5)
  rw [World.size_alloc] at hY
  have HY := Lib.hid hY
  have HB := Lib.hid (below_alloc (below_alloc (Below.refl _ w) (.cells #[nilS, nilS] 25)) (.cells #[.int .u8 84, .int .u8 1] 5))
  clear hY
  go_enter Tryd.func9, Tryd.ntmps9
  go_wp2_with fail
  go_loopw [9] (fun v w' => ∃ i : Nat, v = .int .i64 (i : Int) ∧ i ≤ 2 ∧ Hid (Below w.heap.size w w') ∧ Hid (w'.heap[w.heap.size]? = some (.cells #[nilS, nilS] 25 (0, 0))) ∧ Hid (w'.heap[w.heap.size + 1]? = some (.cells #[.int .u8 84, .int .u8 1] 5 (0, 0))) ∧ Hid ((1 ≤ i → 0 < s.size ∧ bt s 0 = 84) ∧ (2 ≤ i → 1 < s.size ∧ bt s 1 = 1))) (fun v _ => 2 - (intOf v).toNat)
  case atStart => exact ⟨0, rfl, by omega, HB, HX, HY, Lib.hid ⟨fun h => by omega, fun h => by omega⟩⟩
  case round =>
    clear HB HX HY
    obtain ⟨i, rfl, hi, HB, HX, HY, HH⟩ := hrel
    have hx0 := blk_cell HX.out 0
    have hx1 := blk_cell HX.out 1
    have hx2 := blk_frozen HX.out 0
    have hx3 := blk_frozen HX.out 1
    have hy0 := blk_cell HY.out 0
    have hy1 := blk_cell HY.out 1
    simp at hx0 hx1 hy0 hy1
    have hXl := blk_lt HX.out
    match i, hi with
    | 0, _ =>
      rw [show ((0 : Nat) : Int) = 0 from rfl]
      by_cases hl : 0 < s.size
      · have hlb : (0 : Int) < (s.size : Int) := by omega
        have hb8 := bt_at s 0 (by simpa using hl)
        have hne : ¬ s = ByteArray.empty := fun h => by rw [h] at hl; exact absurd hl (by decide)
        by_cases hb : ((s[0]'hl).toNat : Int) = 84
        · have hbt : bt s 0 = 84 := hb8.symm.trans hb
          have HH2 : Hid ((1 ≤ 0+1 → 0 < s.size ∧ bt s 0 = 84) ∧ (2 ≤ 0+1 → 1 < s.size ∧ bt s 1 = 1)) := Lib.hid ⟨fun _ => ⟨hl, hbt⟩, fun _ => by omega⟩
          have hbb : (((s[0]'hl).toNat : Int) != 84) = false := by rw [hb]; rfl
          clear hbt hb8 hb
          go_wp2_with fail
          go_roundw
          case rel => exact ⟨1, rfl, by omega, HB, HX, HY, HH2⟩
          case measure => simp [intOf]
        · have hD : decS s = .error 0 := by unfold decS; exact if_pos (fun h => hb (hb8.trans h.2))
          have hbb : (((s[0]'hl).toNat : Int) != 84) = true := by simpa using hb
          clear hb8 hb
          have HT2 := Lib.hid hD
          clear hD
          go_wp2_with fail
          refine bodyPost_ret (results_ct rfl _ _ w.heap.size 25 #[nilS, nilS] (0, 0) _ rfl (blk_alloc (blk_put (cs' := #[nilS, nilS]) (blk_put (cs' := #[nilS, nilS]) HX.out 0 _ rfl) 1 _ rfl) _) Tryd.underlying25 rfl (by kernel_rfl)) rfl ?_
          refine ⟨below_alloc (below_set (below_set HB.out (Nat.le_refl _)) (Nat.le_refl _)) _, ?_⟩
          rw [HT2.out]
          exact ⟨_, rfl, wr.heap.size, HB.out.size, rfl, blk_new_set2 _ _ _ _ _ _⟩
      · have hlb : ¬ (0 : Int) < (s.size : Int) := by omega
        have hem : s = ByteArray.empty := ByteArray.size_eq_zero_iff.1 (by omega)
        have hD : decS s = .error 0 := by unfold decS; exact if_pos (fun h => hl h.1)
        rw [hem] at hD
        have HT2 := Lib.hid hD
        clear hD
        go_wp2_with fail
        refine bodyPost_ret (results_ct rfl _ _ w.heap.size 25 #[nilS, nilS] (0, 0) _ rfl (blk_alloc (blk_put (cs' := #[nilS, nilS]) (blk_put (cs' := #[nilS, nilS]) HX.out 0 _ rfl) 1 _ rfl) _) Tryd.underlying25 rfl (by kernel_rfl)) rfl ?_
        refine ⟨below_alloc (below_set (below_set HB.out (Nat.le_refl _)) (Nat.le_refl _)) _, ?_⟩
        rw [HT2.out]
        exact ⟨_, rfl, wr.heap.size, HB.out.size, rfl, blk_new_set2 _ _ _ _ _ _⟩
    | 1, _ =>
      rw [show ((1 : Nat) : Int) = 1 from rfl]
      by_cases hl : 1 < s.size
      · have hlb : (1 : Int) < (s.size : Int) := by omega
        have hb8 := bt_at s 1 (by simpa using hl)
        have hne : ¬ s = ByteArray.empty := fun h => by rw [h] at hl; exact absurd hl (by decide)
        by_cases hb : ((s[1]'hl).toNat : Int) = 1
        · have hbt : bt s 1 = 1 := hb8.symm.trans hb
          have HH2 : Hid ((1 ≤ 1+1 → 0 < s.size ∧ bt s 0 = 84) ∧ (2 ≤ 1+1 → 1 < s.size ∧ bt s 1 = 1)) := Lib.hid ⟨fun _ => HH.out.1 (by omega), fun _ => ⟨hl, hbt⟩⟩
          have hbb : (((s[1]'hl).toNat : Int) != 1) = false := by rw [hb]; rfl
          clear hbt hb8 hb
          go_wp2_with fail
          go_roundw
          case rel => exact ⟨2, rfl, by omega, HB, HX, HY, HH2⟩
          case measure => simp [intOf]
        · have hD : decS s = .error 1 := by unfold decS; rw [if_neg (fun hn => hn (HH.out.1 (by omega)))]; exact if_pos (fun h => hb (hb8.trans h.2))
          have hbb : (((s[1]'hl).toNat : Int) != 1) = true := by simpa using hb
          clear hb8 hb
          have HT2 := Lib.hid hD
          clear hD
          go_wp2_with fail
          refine bodyPost_ret (results_ct rfl _ _ w.heap.size 25 #[nilS, nilS] (0, 0) _ rfl (blk_alloc (blk_put (cs' := #[nilS, nilS]) (blk_put (cs' := #[nilS, nilS]) HX.out 0 _ rfl) 1 _ rfl) _) Tryd.underlying25 rfl (by kernel_rfl)) rfl ?_
          refine ⟨below_alloc (below_set (below_set HB.out (Nat.le_refl _)) (Nat.le_refl _)) _, ?_⟩
          rw [HT2.out]
          exact ⟨_, rfl, wr.heap.size, HB.out.size, rfl, blk_new_set2 _ _ _ _ _ _⟩
      · have hlb : ¬ (1 : Int) < (s.size : Int) := by omega
        have hD : decS s = .error 1 := by unfold decS; rw [if_neg (fun hn => hn (HH.out.1 (by omega)))]; exact if_pos (fun h => hl h.1)
        have HT2 := Lib.hid hD
        clear hD
        go_wp2_with fail
        refine bodyPost_ret (results_ct rfl _ _ w.heap.size 25 #[nilS, nilS] (0, 0) _ rfl (blk_alloc (blk_put (cs' := #[nilS, nilS]) (blk_put (cs' := #[nilS, nilS]) HX.out 0 _ rfl) 1 _ rfl) _) Tryd.underlying25 rfl (by kernel_rfl)) rfl ?_
        refine ⟨below_alloc (below_set (below_set HB.out (Nat.le_refl _)) (Nat.le_refl _)) _, ?_⟩
        rw [HT2.out]
        exact ⟨_, rfl, wr.heap.size, HB.out.size, rfl, blk_new_set2 _ _ _ _ _ _⟩
    | 2, _ =>
      rw [show ((2 : Nat) : Int) = 2 from rfl]
      have hD : decS s = tabS s 2 := by unfold decS; rw [if_neg (fun hn => hn (HH.out.1 (by omega))), if_neg (fun hn => hn (HH.out.2 (by omega)))]
      have hl : 1 < s.size := (HH.out.2 (by omega)).1
      have HD := Lib.hid hD
      clear hD HH
      have HT := Lib.hid (table_any s wr.heap.size 2 wr _ ⟨blk_new wr (.cells #[.string s, .int .i64 2] 83), Nat.le_refl _⟩ (below_alloc (Below.refl _ wr) _) hs (by omega))
      go_wp2_with fail
      refine HT.out.mono ?_
      rintro e w5 ⟨hb5, hT⟩
      have HB5 := Lib.hid (below_step HB.out hb5)
      have HX5 := Lib.hid (blk_below HX.out hb5)
      clear hb5 HT hx0 hx1 hx2 hx3 hy0 hy1
      have hx0 := blk_cell HX5.out 0
      have hx1 := blk_cell HX5.out 1
      have hx2 := blk_frozen HX5.out 0
      have hx3 := blk_frozen HX5.out 1
      simp at hx0 hx1
      rcases htb : tabS s 2 with p | ⟨rows, gos⟩
      · rw [htb] at hT
        obtain ⟨ev, rfl, hbad⟩ := hT
        have hD := HD.out
        rw [htb] at hD
        have HD2 := Lib.hid hD
        have HBad := Lib.hid ((hbad.far (k := w.heap.size) (j := 0) (by rw [World.size_alloc]; omega) nilS).far (k := w.heap.size) (j := 1) (by rw [World.size_alloc]; omega) nilS)
        obtain ⟨b, hb1, rfl, hb2⟩ := hbad
        clear hb1 hb2 htb hD HD
        go_wp2_with fail
        refine bodyPost_ret (results_ct rfl _ _ w.heap.size 25 #[nilS, nilS] (0, 0) _ rfl (blk_put (cs' := #[nilS, nilS]) (blk_put (cs' := #[nilS, nilS]) HX5.out 0 _ rfl) 1 _ rfl) Tryd.underlying25 rfl (by kernel_rfl)) rfl ?_
        refine ⟨below_set (below_set HB5.out (Nat.le_refl _)) (Nat.le_refl _), ?_⟩
        rw [HD2.out]
        exact ⟨_, rfl, HBad.out.before (by rw [World.size_alloc]; omega)⟩
      · rw [htb] at hT
        obtain ⟨vA, vG, rfl, hA, hG⟩ := hT
        have hD := HD.out
        rw [htb] at hD
        have HD2 := Lib.hid hD
        obtain ⟨AA, cA, eA⟩ := Kd.R_slice hA
        obtain ⟨AG, cG, eG⟩ := Kd.R_slice hG
        subst eA
        subst eG
        have HA := Lib.hid (Kd.R_lower hA HB.out.size)
        have HG := Lib.hid (Kd.R_lower hG HB.out.size)
        clear htb hD HD hA hG
        simp only at HA HG
        go_wp2_with fail
        refine bodyPost_ret (results_ct rfl _ _ w.heap.size 25 #[.slice AA rows.length cA, .slice AG gos.length cG] (0, 0) _ rfl (blk_put (cs' := #[.slice AA rows.length cA, .slice AG gos.length cG]) (blk_put (cs' := #[.slice AA rows.length cA, nilS]) HX5.out 0 _ rfl) 1 _ rfl) Tryd.underlying25 rfl (by kernel_rfl)) rfl ?_
        refine ⟨below_set (below_set HB5.out (Nat.le_refl _)) (Nat.le_refl _), ?_⟩
        rw [HD2.out]
        refine ⟨_, _, rfl, ?_, ?_⟩
        · exact Kd.R_set (Kd.R_set HA.out HX5.out (kA_E plain25) 0 _) (blk_set HX5.out 0 _) (kA_E plain25) 1 _
        · exact Kd.R_set (Kd.R_set HG.out HX5.out (kG_E plain25) 0 _) (blk_set HX5.out 0 _) (kG_E plain25) 1 _
end Dec
end Go.Proofs.YtcijanmckhlpiaaDoor
