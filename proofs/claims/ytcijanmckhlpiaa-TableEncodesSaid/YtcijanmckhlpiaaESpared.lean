import Derived.Test.YtcijanmckhlpiaaERoomy0
import Derived.Test.YtcijanmckhlpiaaPTableEncodesx3
namespace Go.Proofs.Ytcijanmckhlpiaa
open Go.RowKit Go.Proofs.YtcijanmckhlpiaaW.PrintWords Go.Proofs.YtcijanmckhlpiaaW.PrintLast Go.Proofs.YtcijanmckhlpiaaW.PrintMore Go.Proofs.Ytcijanmckhlpiaa.PTableEncodes
set_option linter.unusedVariables false
set_option linter.unusedSimpArgs false

theorem at_spare {α : Type} {e : Nat} {d : Kd α} {w : World} {ad : Addr} {n : Nat} {xs : List (List α × List α)} (h : (Kd.spare e d).C w (some ad) n xs) (i : Nat) (x : List α × List α) (hx : xs[i]? = some x) :
    ∃ A' c', w.cell? (ad.add i) = some (.slice A' x.1.length c') ∧ (x.1 ++ x.2).length ≤ c' ∧ d.C w A' (x.1 ++ x.2).length (x.1 ++ x.2) := by
  have hi : i < xs.length := (List.getElem?_eq_some_iff.1 hx).1
  obtain ⟨ad', e', hc⟩ := h.2.2 (by have := h.1; omega)
  injection e' with e'
  subst e'
  obtain ⟨c, _, ⟨A', c', rfl, hl, hr⟩, hcell⟩ := hc i x hx
  exact ⟨A', c', by have hq := hcell 0 _ rfl; rwa [show (Kd.spare e d).sz = 1 from rfl, Nat.mul_one, Nat.add_zero] at hq, hl, hr⟩
theorem C_of_spare {α : Type} {e : Nat} {d : Kd α} {w : World} {A : Option Addr} {n : Nat} {xs : List (List α)} {m : List α} {ys : List (List α × List α)} (h : (Kd.spare e d).C w A n ((xs.map fun r => (r, m)) ++ ys)) : (Kd.slice e d).C w A xs.length xs := by
  obtain ⟨h1, h2, h3⟩ := h
  simp only [List.length_append, List.length_map] at h1
  refine ⟨rfl, by omega, fun hn => ?_⟩
  obtain ⟨ad, rfl, hc⟩ := h3 (by omega)
  refine ⟨ad, rfl, fun j p hj => ?_⟩
  have hjl : j < xs.length := (List.getElem?_eq_some_iff.1 hj).1
  obtain ⟨c, h4, ⟨A', c', rfl, hl, hr⟩, hcell⟩ := hc j (p, m) (by rw [List.getElem?_append_left (by simpa using hjl), List.getElem?_map, hj]; rfl)
  refine ⟨_, h4, ⟨A', c', rfl, ?_, ?_⟩, hcell⟩
  · simp only [List.length_append] at hl; omega
  · have ht := Kd.C_take (m := p.length) hr (by simp)
    rwa [List.take_left'  rfl] at ht

theorem cut_room {P : Program} (t e : TypeId) (kh : IntKind) {i : TypeInfo} (ht : P.underlying t = some (.slice e)) (hi : P.info? e = some i) (A : Option Addr) (n c : Nat) (j : Int) (h0 : 0 ≤ j) (hm : j ≤ c) :
    ∀ W : World, (Instr.slice t (.slice A n c) none (some (.int kh j)) none).run P W = .ok (.slice A j.toNat c) W := by
  intro W
  have hel : P.elem t = e := by simp [Program.elem, ht]
  have hu : P.underlying t = some (.slice (P.elem t)) := by rw [hel]; exact ht
  have ha : (A.map fun x => x.add 0) = A := by cases A <;> simp [Addr.add]
  rw [run_slice_h W t A n c hu kh j h0 (by omega), hel]
  simp [sizeOf, typeInfo, hi, sliced, ha, Result.andThen]

/-- The rows with a mark behind each, and a last row of the mark alone, of struct elements. -/
theorem xA_at (l : List (List S80)) (s : Nat) (h : s < l.length) : (xA l ++ [(markA, [])])[s]? = some (rd_L2 l s, markA) := by
  rw [List.getElem?_append_left (by simpa [xA] using h)]
  unfold xA rd_L2
  rw [List.getElem?_map, List.getElem?_eq_getElem h, Int.toNat_natCast, List.getD_eq_getElem?_getD, List.getElem?_eq_getElem h]
  rfl
theorem xA_last (l : List (List S80)) : (xA l ++ [(markA, [])])[l.length]? = some (markA, []) := by
  rw [List.getElem?_append_right (by simp [xA])]
  simp [xA]
theorem xG_at (l : List (List Int)) (s : Nat) (h : s < l.length) : (xG l ++ [(markG, [])])[s]? = some (rd_L3 l s, markG) := by
  rw [List.getElem?_append_left (by simpa [xG] using h)]
  unfold xG rd_L3
  rw [List.getElem?_map, List.getElem?_eq_getElem h, Int.toNat_natCast, List.getD_eq_getElem?_getD, List.getElem?_eq_getElem h]
  rfl
theorem xG_last (l : List (List Int)) : (xG l ++ [(markG, [])])[l.length]? = some (markG, []) := by
  rw [List.getElem?_append_right (by simp [xG])]
  simp [xG]

set_option maxRecDepth 100000 in
set_option maxHeartbeats 4000000 in
theorem spared_any (k : Nat) (gA cA gG cG : Nat) (A0 : Option Addr) (c0 : Nat) (l0 : List (List S80)) (A1 : Option Addr) (c1 : Nat) (l1 : List (List Int)) (w : World)
    (hA : (Kd.spare 80 k80).C w (some ⟨gA, 0, none⟩) (l0.length + 1) (xA l0 ++ [(markA, [])])) (hcA : l0.length + 1 ≤ cA) (hG : (Kd.spare 3 kI).C w (some ⟨gG, 0, none⟩) (l1.length + 1) (xG l1 ++ [(markG, [])])) (hcG : l1.length + 1 ≤ cG)
    (hr0 : Kd.C (Kd.slice 80 k80) w A0 l0.length l0) (hc0 : l0.length ≤ c0) (hr1 : Kd.C (Kd.slice 3 kI) w A1 l1.length l1) (hc1 : l1.length ≤ c1) (hsame : trellislaw13_same.f k l0 l1 l0 l1 = some true) :
    Calls Try.prog 13 #[.agg #[.slice (some ⟨gA, 0, none⟩) l0.length cA, .slice (some ⟨gG, 0, none⟩) l1.length cG], .agg #[.slice A0 l0.length c0, .slice A1 l1.length c1]] w fun e w' => e = .returned (.bool true) ∧ Below w.heap.size w w' := by
  have HS := Lib.hid (trellislaw13_same.calls k (some ⟨gA, 0, none⟩) cA l0 (some ⟨gG, 0, none⟩) cG l1 A0 c0 l0 A1 c1 l1 true (((w.alloc (.cells #[.slice (some ⟨gA, 0, none⟩) l0.length cA, .slice (some ⟨gG, 0, none⟩) l1.length cG] 25)).alloc (.cells #[.slice A0 l0.length c0, .slice A1 l1.length c1] 25)))
    (Kd.C_alloc (Kd.C_alloc (C_of_spare hA) _) _) (by omega) (Kd.C_alloc (Kd.C_alloc (C_of_spare hG) _) _) (by omega) (Kd.C_alloc (Kd.C_alloc hr0 _) _) hc0 (Kd.C_alloc (Kd.C_alloc hr1 _) _) hc1 hsame)
  have HA := Lib.hid hA
  have HG := Lib.hid hG
  have HR0 := Lib.hid hr0
  have HR1 := Lib.hid hr1
  have hL0 : l0.length ≤ 9223372036854775807 := hr0.2.1
  have hL1 : l1.length ≤ 9223372036854775807 := hr1.2.1
  clear hA hG hr0 hr1 hsame
  go_enter Try.func13, Try.ntmps13
  go_wp2_with fail
  refine HS.out.mono ?_
  rintro e wS ⟨rfl, hbS⟩
  have HBW := Lib.hid (below_step (below_alloc (below_alloc (Below.refl _ w) (.cells #[.slice (some ⟨gA, 0, none⟩) l0.length cA, .slice (some ⟨gG, 0, none⟩) l1.length cG] 25)) (.cells #[.slice A0 l0.length c0, .slice A1 l1.length c1] 25)) hbS)
  have K1 := Lib.hid (blk_below (blk_alloc (blk_new w _) _) hbS)
  have K2 := Lib.hid (blk_below (blk_new1 w _ _) hbS)
  have k10 := blk_cell K1.out 0
  have k11 := blk_cell K1.out 1
  have k20 := blk_cell K2.out 0
  have k21 := blk_cell K2.out 1
  simp only [List.getElem?_toArray, List.getElem?_cons_zero, List.getElem?_cons_succ] at k10 k11 k20 k21
  clear hbS HS
  go_wp2_with fail
  go_loop [5] (fun v => ∃ s : Nat, v = .int .i64 s ∧ s ≤ l0.length) (fun v => l0.length - (intOf v).toNat)
  case atStart => exact ⟨0, rfl, Nat.zero_le _⟩
  case round =>
    obtain ⟨s, rfl, hs⟩ := hrel
    by_cases hlt : s < l0.length
    · obtain ⟨ad, A', c', rfl, hcell, hle, hC⟩ := at_L2 (Kd.C_below HR0.out HBW.out) s (by omega) (by omega)
      have g20 : wS.cell? (ad.add s) = some (.slice A' (rd_L2 l0 s).length c') := hcell
      obtain ⟨A2, c2, g30, hle2, hsp⟩ := at_spare (Kd.C_below HA.out HBW.out) s _ (xA_at l0 s hlt)
      simp only [] at g30 hle2 hsp
      have hm2 : (rd_L2 l0 s ++ markA).length ≤ 9223372036854775807 := hsp.2.1
      clear hcell hC
      generalize rd_L2 l0 s = row at *
      have e2 : (row ++ markA).length = row.length + 1 := by simp [markA]
      have HE2 := Lib.hid e2
      rw [e2] at hle2 hm2
      obtain ⟨ad2, rfl, g31, g32⟩ := at_T80 hsp (row.length : Int) (by omega) (by simp [markA]; omega)
      rw [Int.toNat_natCast, show rd_T80 (row ++ markA) (row.length : Int) = ⟨0, -77⟩ by unfold rd_T80; simp [markA]] at g31 g32
      obtain ⟨i0, hi0, _, _, _⟩ := info_parts info80
      have hcut := cut_room (P := Try.prog) 77 80 .i64 Try.underlying77 hi0 (some ad2) row.length c2 (row.length + 1 : Int) (by omega) (by omega)
      rw [show ((row.length : Int) + 1).toNat = row.length + 1 by omega] at hcut
      rw [add_plain] at g30
      clear e2 hsp hle
      have i1 : (row.length : Int) + 1 ≤ (c2 : Int) := by omega
      go_wp2_with fail
      go_round
      case rel => exact ⟨s + 1, by go_num, by omega⟩
      case measure => simp [intOf]; omega
    · have hse : s = l0.length := by omega
      subst hse
      clear hlt hs
      go_wp2_with fail
      go_loop [8] (fun v => ∃ s : Nat, v = .int .i64 s ∧ s ≤ l1.length) (fun v => l1.length - (intOf v).toNat)
      case atStart => exact ⟨0, rfl, Nat.zero_le _⟩
      case round =>
        obtain ⟨s, rfl, hs⟩ := hrel
        by_cases hlt : s < l1.length
        · obtain ⟨ad, A', c', rfl, hcell, hle, hC⟩ := at_L3 (Kd.C_below HR1.out HBW.out) s (by omega) (by omega)
          have g20 : wS.cell? (ad.add s) = some (.slice A' (rd_L3 l1 s).length c') := hcell
          obtain ⟨A2, c2, g30, hle2, hsp⟩ := at_spare (Kd.C_below HG.out HBW.out) s _ (xG_at l1 s hlt)
          simp only [] at g30 hle2 hsp
          have hm2 : (rd_L3 l1 s ++ markG).length ≤ 9223372036854775807 := hsp.2.1
          clear hcell hC
          generalize rd_L3 l1 s = row at *
          have e2 : (row ++ markG).length = row.length + 1 := by simp [markG]
          have HE2 := Lib.hid e2
          rw [e2] at hle2 hm2
          obtain ⟨ad2, rfl, g31⟩ := at_I3 hsp (row.length : Int) (by omega) (by simp [markG]; omega)
          rw [Int.toNat_natCast, show rd (row ++ markG) (row.length : Int) = -77 by unfold rd; simp [markG]] at g31
          obtain ⟨i0, hi0, _, _, _⟩ := info_parts info3
          have hcut := cut_room (P := Try.prog) 33 3 .i64 Try.underlying33 hi0 (some ad2) row.length c2 (row.length + 1 : Int) (by omega) (by omega)
          rw [show ((row.length : Int) + 1).toNat = row.length + 1 by omega] at hcut
          rw [add_plain] at g30
          clear e2 hsp hle
          have i1 : (row.length : Int) + 1 ≤ (c2 : Int) := by omega
          go_wp2_with fail
          go_round
          case rel => exact ⟨s + 1, by go_num, by omega⟩
          case measure => simp [intOf]; omega
        · have hse : s = l1.length := by omega
          subst hse
          clear hlt hs
          obtain ⟨A2, c2, g30, hle2, hsp⟩ := at_spare (Kd.C_below HA.out HBW.out) l0.length _ (xA_last l0)
          obtain ⟨A3, c3, g40, hle3, hsp3⟩ := at_spare (Kd.C_below HG.out HBW.out) l1.length _ (xG_last l1)
          obtain ⟨ad2, rfl, g31, g32⟩ := at_T80 hsp 0 (by omega) (by simp [markA])
          obtain ⟨ad3, rfl, g41⟩ := at_I3 hsp3 0 (by omega) (by simp [markG])
          have e1 : rd_T80 (markA ++ []) 0 = ⟨0, -77⟩ := rfl
          have e2 : rd (markG ++ []) 0 = -77 := rfl
          rw [e1] at g31 g32
          rw [e2] at g41
          obtain ⟨i0, hi0, _, _, _⟩ := info_parts info77
          have hcut := cut_room (P := Try.prog) 22 77 .i64 Try.underlying22 hi0 (some ⟨gA, 0, none⟩) l0.length cA (l0.length + 1 : Int) (by omega) (by omega)
          rw [show ((l0.length : Int) + 1).toNat = l0.length + 1 by omega] at hcut
          obtain ⟨j0, hj0, _, _, _⟩ := info_parts info33
          have hcut2 := cut_room (P := Try.prog) 23 33 .i64 Try.underlying23 hj0 (some ⟨gG, 0, none⟩) l1.length cG (l1.length + 1 : Int) (by omega) (by omega)
          rw [show ((l1.length : Int) + 1).toNat = l1.length + 1 by omega] at hcut2
          rw [add_plain] at g30 g40
          have a0 : ∀ a : Addr, a.add 0 = a := fun a => by simp [Addr.add]
          have m1 : l0.length + 1 ≤ 9223372036854775807 := HA.out.2.1
          have m2 : l1.length + 1 ≤ 9223372036854775807 := HG.out.2.1
          clear e1 e2 hsp hsp3
          simp only [markA, markG, List.length_cons, List.length_nil, Int.toNat_zero, Nat.zero_mul, Nat.zero_add, List.append_nil, a0] at g30 g40 g31 g32 g41 hle2 hle3
          clear a0
          go_wp2_with fail
          go_ret
          exact ⟨rfl, HBW.out⟩
end Go.Proofs.Ytcijanmckhlpiaa
