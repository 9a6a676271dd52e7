import Derived.Test.YtcijanmckhlpiaaERoomy
import Derived.Test.YtcijanmckhlpiaaESpared
import Derived.Test.YtcijanmckhlpiaaESame
import Derived.Test.YtcijanmckhlpiaaEncPlain2
import Derived.Test.YtcijanmckhlpiaaEMine
namespace Go.Proofs.Ytcijanmckhlpiaa
open Go.RowKit Go.Proofs.YtcijanmckhlpiaaW.PrintWords Go.Proofs.YtcijanmckhlpiaaW.PrintLast Go.Proofs.YtcijanmckhlpiaaW.PrintMore Go.Proofs.Ytcijanmckhlpiaa.PTableEncodes
set_option linter.unusedVariables false
set_option linter.unusedSimpArgs false

set_option maxRecDepth 100000 in
set_option maxHeartbeats 4000000 in
theorem tableEncodes_any (A0 : Option Addr) (c0 : Nat) (l0 : List (List S80)) (A1 : Option Addr) (c1 : Nat) (l1 : List (List Int)) (w : World)
    (hr0 : Kd.C (Kd.slice 80 k80) w A0 l0.length l0) (hc0 : l0.length ≤ c0) (hr1 : Kd.C (Kd.slice 3 kI) w A1 l1.length l1) (hc1 : l1.length ≤ c1)
    (hz0 : (l0.length + 1) * 24 ≤ 140737488355328) (hz1 : (l1.length + 1) * 24 ≤ 140737488355328) (hy0 : ∀ x ∈ l0, (x.length + 1) * 16 ≤ 140737488355328) (hy1 : ∀ x ∈ l1, (x.length + 1) * 8 ≤ 140737488355328) :
    Calls Try.prog 6 #[.agg #[.slice A0 l0.length c0, .slice A1 l1.length c1]] w fun e w' => e = .returned (.bool true) ∧ Below w.heap.size w w' := by
  have hb0 : ∀ x ∈ l0, x.length ≤ 9223372036854775807 := fun x hx => by have := hy0 x hx; omega
  have hb1 : ∀ x ∈ l1, x.length ≤ 9223372036854775807 := fun x hx => by have := hy1 x hx; omega
  obtain ⟨k1, hk1⟩ := (enc_ev l0 l1 hb0 hb1).rounds
  obtain ⟨k2, hk2⟩ := (renc_ev l0 l1 hb0 hb1).rounds
  obtain ⟨k3, hk3⟩ := (same_ev l0 l1 (by omega) (by omega) hb0 hb1).rounds
  have HK1 := Lib.hid hk1
  have HK2 := Lib.hid hk2
  have HK3 := Lib.hid hk3
  have HR0 := Lib.hid hr0
  have HR1 := Lib.hid hr1
  have HY0 := Lib.hid hy0
  have HY1 := Lib.hid hy1
  clear hk1 hk2 hk3 hr0 hr1 hy0 hy1 hb0 hb1
  go_enter Try.func6, Try.ntmps6
  go_wp2_with fail
  refine (roomy_any A0 c0 l0 A1 c1 l1 _ (Kd.C_alloc HR0.out _) (Kd.C_alloc HR1.out _) hz0 hz1 HY0.out HY1.out).mono ?_
  rintro e w2 ⟨gA, cA, gG, cG, rfl, hA, hG, hB2⟩
  have HA := Lib.hid hA
  have HG := Lib.hid hG
  have HB2 := Lib.hid hB2
  have HX1 := Lib.hid (blk_below (blk_new w _) hB2)
  clear hA hG hB2
  go_wp2_with fail
  have HX2 := Lib.hid (blk_new w2 (.cells #[.slice (some ⟨gA, 0, none⟩) l0.length cA, .slice (some ⟨gG, 0, none⟩) l1.length cG] 25))
  have HB3 := Lib.hid (below_alloc (below_step (below_alloc (Below.refl _ w) (.cells #[.slice A0 l0.length c0, .slice A1 l1.length c1] 25)) HB2.out) (.cells #[.slice (some ⟨gA, 0, none⟩) l0.length cA, .slice (some ⟨gG, 0, none⟩) l1.length cG] 25))
  have HX1' := Lib.hid (blk_alloc HX1.out (.cells #[.slice (some ⟨gA, 0, none⟩) l0.length cA, .slice (some ⟨gG, 0, none⟩) l1.length cG] 25))
  have HA3 := Lib.hid (Kd.R_alloc HA.out (.cells #[.slice (some ⟨gA, 0, none⟩) l0.length cA, .slice (some ⟨gG, 0, none⟩) l1.length cG] 25))
  have HG3 := Lib.hid (Kd.R_alloc HG.out (.cells #[.slice (some ⟨gA, 0, none⟩) l0.length cA, .slice (some ⟨gG, 0, none⟩) l1.length cG] 25))
  clear HA HG HB2 HX1
  generalize hW3 : w2.alloc (.cells #[.slice (some ⟨gA, 0, none⟩) l0.length cA, .slice (some ⟨gG, 0, none⟩) l1.length cG] 25) = w3 at *
  clear hW3
  have eA : (xA l0 ++ [(markA, [])]).length = l0.length + 1 := by simp [xA]
  have eG : (xG l1 ++ [(markG, [])]).length = l1.length + 1 := by simp [xG]
  have HCA := (Kd.R_reads' HA3.out).2
  have HCG := (Kd.R_reads' HG3.out).2
  rw [eA] at HCA
  rw [eG] at HCG
  obtain ⟨hcA, HCA'⟩ := HCA
  obtain ⟨hcG, HCG'⟩ := HCG
  have HCA := Lib.hid HCA'
  have HCG := Lib.hid HCG'
  clear HCA' HCG' eA eG
  refine (table_Encode.calls k1 (some ⟨gA, 0, none⟩) cA l0 (some ⟨gG, 0, none⟩) cG l1 _ _ (C_of_spare HCA.out) (by omega) (C_of_spare HCG.out) (by omega) HK1.out).mono ?_
  rintro e w4 ⟨rfl, hB4⟩
  have HB4 := Lib.hid hB4
  have HX14 := Lib.hid (blk_below HX1'.out hB4)
  have HX24 := Lib.hid (blk_below HX2.out hB4)
  clear hB4
  have p10 := blk_cell HX14.out 0
  have p11 := blk_cell HX14.out 1
  have p20 := blk_cell HX24.out 0
  have p21 := blk_cell HX24.out 1
  simp only [List.getElem?_toArray, List.getElem?_cons_zero, List.getElem?_cons_succ] at p10 p11 p20 p21
  go_wp2_with fail
  have HBw4 := Lib.hid (below_step HB3.out HB4.out)
  refine (trellisref13_Encode.calls k2 A0 c0 l0 A1 c1 l1 _ _ (Kd.C_below HR0.out HBw4.out) hc0 (Kd.C_below HR1.out HBw4.out) hc1 HK2.out).mono ?_
  rintro e w5 ⟨rfl, hB5⟩
  have HB5 := Lib.hid hB5
  have HX15 := Lib.hid (blk_below HX14.out hB5)
  have HX25 := Lib.hid (blk_below HX24.out hB5)
  clear hB5 p10 p11 p20 p21
  have p10 := blk_cell HX15.out 0
  have p11 := blk_cell HX15.out 1
  have p20 := blk_cell HX25.out 0
  have p21 := blk_cell HX25.out 1
  simp only [List.getElem?_toArray, List.getElem?_cons_zero, List.getElem?_cons_succ] at p10 p11 p20 p21
  go_wp2_with fail
  have HB35 := Lib.hid (below_step HB4.out HB5.out)
  have HBw5 := Lib.hid (below_step HB3.out HB35.out)
  refine (spared_any k3 gA cA gG cG A0 c0 l0 A1 c1 l1 _ (Kd.C_below HCA.out HB35.out) hcA (Kd.C_below HCG.out HB35.out) hcG (Kd.C_below HR0.out HBw5.out) hc0 (Kd.C_below HR1.out HBw5.out) hc1 HK3.out).mono ?_
  rintro e w6 ⟨rfl, hB6⟩
  have HB6 := Lib.hid hB6
  have HX16 := Lib.hid (blk_below HX15.out hB6)
  have HX26 := Lib.hid (blk_below HX25.out hB6)
  clear hB6 p10 p11 p20 p21
  have p10 := blk_cell HX16.out 0
  have p11 := blk_cell HX16.out 1
  have p20 := blk_cell HX26.out 0
  have p21 := blk_cell HX26.out 1
  simp only [List.getElem?_toArray, List.getElem?_cons_zero, List.getElem?_cons_succ] at p10 p11 p20 p21
  go_wp2_with fail
  have HB36 := Lib.hid (below_step HB35.out HB6.out)
  have HBw6 := Lib.hid (below_step HBw5.out HB6.out)
  have HTI : Hid (TI w.heap.size w w6 gA gG (l0.map List.length) (l1.map List.length) w6) :=
    ⟨HBw6.out, ⟨Nat.le_refl _, fun _ _ _ h _ _ => h⟩, mine_A (Kd.R_below HA3.out HB36.out) (by simp), mine_G (Kd.R_below HG3.out HB36.out) (by simp)⟩
  refine (turned_any w w6 gA cA gG cG A0 A1 c0 c1 l0 l1 HR0.out HR1.out HTI.out).mono ?_
  rintro e w7 ⟨rfl, hT7⟩
  have HX17 := Lib.hid (hT7.kept.2 _ _ _ HX16.out (by decide) (by decide))
  have HX27 := Lib.hid (hT7.kept.2 _ _ _ HX26.out (by decide) (by decide))
  obtain ⟨rows, hrows, hCr⟩ := read_mine 80 k80 hT7.a (by intro n hn; obtain ⟨x, hx, rfl⟩ := List.mem_map.1 hn; have := HY0.out x hx; omega) (by simp; omega) (fun b n => read80)
  obtain ⟨gows, hgows, hCg⟩ := read_mine 3 kI hT7.g (by intro n hn; obtain ⟨x, hx, rfl⟩ := List.mem_map.1 hn; have := HY1.out x hx; omega) (by simp; omega) (fun b n => read3)
  have er : rows.length = l0.length := by have := congrArg List.length hrows; simpa using this
  have eg : gows.length = l1.length := by have := congrArg List.length hgows; simpa using this
  have hbr : ∀ x ∈ rows, x.length ≤ 9223372036854775807 := by
    intro x hx
    have h1 : x.length ∈ l0.map List.length := by rw [← hrows]; exact List.mem_map.2 ⟨x, hx, rfl⟩
    obtain ⟨y, hy, e⟩ := List.mem_map.1 h1
    have := HY0.out y hy
    omega
  have hbg : ∀ x ∈ gows, x.length ≤ 9223372036854775807 := by
    intro x hx
    have h1 : x.length ∈ l1.map List.length := by rw [← hgows]; exact List.mem_map.2 ⟨x, hx, rfl⟩
    obtain ⟨y, hy, e⟩ := List.mem_map.1 h1
    have := HY1.out y hy
    omega
  obtain ⟨k4, hk4⟩ := (enc_ev rows gows hbr hbg).rounds
  obtain ⟨k5, hk5⟩ := (renc_ev rows gows hbr hbg).rounds
  rw [List.length_map, ← er] at hCr
  rw [List.length_map, ← eg] at hCg
  have HV4 := Lib.hid (table_Encode.calls k4 (some ⟨gA, 0, none⟩) cA rows (some ⟨gG, 0, none⟩) cG gows _ · · (by omega) · (by omega) hk4)
  have HV5 := Lib.hid (trellisref13_Encode.calls k5 (some ⟨gA, 0, none⟩) cA rows (some ⟨gG, 0, none⟩) cG gows _ · · (by omega) · (by omega) hk5)
  have HT7 := Lib.hid hT7
  rw [er] at hCr
  rw [eg] at hCg
  have HCr := Lib.hid hCr
  have HCg := Lib.hid hCg
  rw [er, eg] at HV4 HV5
  generalize encB rows gows = v at *
  clear hT7 hCr hCg er eg hk4 hk5 hbr hbg hrows hgows p10 p11 p20 p21
  have p10 := blk_cell HX17.out 0
  have p11 := blk_cell HX17.out 1
  have p20 := blk_cell HX27.out 0
  have p21 := blk_cell HX27.out 1
  simp only [List.getElem?_toArray, List.getElem?_cons_zero, List.getElem?_cons_succ] at p10 p11 p20 p21
  go_wp2_with fail
  refine (HV5.out _ HCr.out HCg.out).mono ?_
  rintro e w8 ⟨rfl, hB8⟩
  have HB8 := Lib.hid hB8
  have HX18 := Lib.hid (blk_below HX17.out hB8)
  have HX28 := Lib.hid (blk_below HX27.out hB8)
  clear hB8 p10 p11 p20 p21
  have p10 := blk_cell HX18.out 0
  have p11 := blk_cell HX18.out 1
  have p20 := blk_cell HX28.out 0
  have p21 := blk_cell HX28.out 1
  simp only [List.getElem?_toArray, List.getElem?_cons_zero, List.getElem?_cons_succ] at p10 p11 p20 p21
  go_wp2_with fail
  refine (HV4.out _ (Kd.C_below HCr.out HB8.out) (Kd.C_below HCg.out HB8.out)).mono ?_
  rintro e w9 ⟨rfl, hB9⟩
  have HBw9 := Lib.hid (below_step (below_step HT7.out.below HB8.out) hB9)
  clear hB9 p10 p11 p20 p21
  go_wp2_with fail
  go_ret
  exact ⟨rfl, HBw9.out⟩
end Go.Proofs.Ytcijanmckhlpiaa
