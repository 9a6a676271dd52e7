-- Texts of this seat, cut to what is used and merged (by shake.py).
import Derived.Test.YtcijanmckhlpiaaDoorTr9
namespace Go.Proofs.YtcijanmckhlpiaaDoor
open Go.RowKit Go.Proofs.YtcijanmckhlpiaaDoorW.PrintWords Go.Proofs.YtcijanmckhlpiaaDoorW.PrintLast Go.Proofs.YtcijanmckhlpiaaDoorW.PrintMore Go.Proofs.YtcijanmckhlpiaaDoor.PTableBuilds
set_option linter.unusedVariables false
set_option linter.unusedSimpArgs false
namespace Bld
set_option maxRecDepth 100000 in
set_option maxHeartbeats 4000000 in
theorem appUintIn_any (u : Nat) (hu : u < two64) (B : Nat) (w : World) (v : Value) (xs : List Int) (hr : kB.R 5 w B tru v xs) (hB : B ≤ w.heap.size) (hl : xs.length ≤ 67108864) :
    Calls Tryd.prog 121 #[v, .int .u64 (u : Int), .int .i64 36] w (RetApp B w v.ownBlock (xs ++ t36 u)) := by
  have HC := Lib.hid (format_any u hu B w v xs hr hB hl)
  obtain ⟨Av, cv, rfl, hcv, -⟩ := Kd.R_reads hr
  clear hr hu
  go_enter Tryd.func121, Tryd.ntmps121
  go_wp2_with (go_at_call 111; refine (HC.out).mono ?_; rintro e1 w1 ⟨v1, rfl, hr1, hb1, hg1⟩; refine Hid.out ?_)
  refine Lib.hid ?_
  have HR1 := Lib.hid hr1
  have HB1 := Lib.hid hb1
  have HG1 := Lib.hid hg1
  clear hr1 hb1 hg1
  go_wp2_with fail
  go_ret
  exact ⟨v1, rfl, HR1.out, HB1.out, HG1.out⟩
set_option maxRecDepth 100000 in
set_option maxHeartbeats 4000000 in
theorem appUint_any (u : Nat) (hu : u < two64) (B : Nat) (w : World) (v : Value) (xs : List Int) (hr : kB.R 5 w B tru v xs) (hB : B ≤ w.heap.size) (hl : xs.length ≤ 67108864) :
    Calls Tryd.prog 100 #[v, .int .u64 (u : Int), .int .i64 36] w (RetApp B w v.ownBlock (xs ++ t36 u)) := by
  have HC := Lib.hid (appUintIn_any u hu B w v xs hr hB hl)
  obtain ⟨Av, cv, rfl, hcv, -⟩ := Kd.R_reads hr
  clear hr hu
  go_enter Tryd.func100, Tryd.ntmps100
  go_wp2_with (go_at_call 121; refine (HC.out).mono ?_; rintro e1 w1 ⟨v1, rfl, hr1, hb1, hg1⟩; refine Hid.out ?_)
  refine Lib.hid ?_
  have HR1 := Lib.hid hr1
  have HB1 := Lib.hid hb1
  have HG1 := Lib.hid hg1
  clear hr1 hb1 hg1
  go_wp2_with fail
  go_ret
  exact ⟨v1, rfl, HR1.out, HB1.out, HG1.out⟩
set_option maxRecDepth 100000 in
set_option maxHeartbeats 4000000 in
theorem appIntIn_any (u : Nat) (hu : u < 9223372036854775808) (B : Nat) (w : World) (v : Value) (xs : List Int) (hr : kB.R 5 w B tru v xs) (hB : B ≤ w.heap.size) (hl : xs.length ≤ 67108864) :
    Calls Tryd.prog 120 #[v, .int .i64 (u : Int), .int .i64 36] w (RetApp B w v.ownBlock (xs ++ t36 u)) := by
  have HC := Lib.hid (appUintIn_any u (by unfold two64; omega) B w v xs hr hB hl)
  obtain ⟨Av, cv, rfl, hcv, -⟩ := Kd.R_reads hr
  have hw : IntKind.u64.wrap (u : Int) = (u : Int) := by rw [IntKind.wrap_u64]; omega
  have h0 : decide ((u : Int) < 0) = false := decide_eq_false (by omega)
  have h1 : (0 : Int) ≤ (u : Int) := Int.natCast_nonneg _
  clear hr
  go_enter Tryd.func120, Tryd.ntmps120
  go_wp2_with (go_at_call 121; refine (HC.out).mono ?_; rintro e1 w1 ⟨v1, rfl, hr1, hb1, hg1⟩; refine Hid.out ?_)
  refine Lib.hid ?_
  have HR1 := Lib.hid hr1
  have HB1 := Lib.hid hb1
  have HG1 := Lib.hid hg1
  clear hr1 hb1 hg1
  go_wp2_with fail
  go_ret
  exact ⟨v1, rfl, HR1.out, HB1.out, HG1.out⟩
set_option maxRecDepth 100000 in
set_option maxHeartbeats 4000000 in
theorem appInt_any (u : Nat) (hu : u < 9223372036854775808) (B : Nat) (w : World) (v : Value) (xs : List Int) (hr : kB.R 5 w B tru v xs) (hB : B ≤ w.heap.size) (hl : xs.length ≤ 67108864) :
    Calls Tryd.prog 99 #[v, .int .i64 (u : Int), .int .i64 36] w (RetApp B w v.ownBlock (xs ++ t36 u)) := by
  have HC := Lib.hid (appIntIn_any u hu B w v xs hr hB hl)
  obtain ⟨Av, cv, rfl, hcv, -⟩ := Kd.R_reads hr
  clear hr hu
  go_enter Tryd.func99, Tryd.ntmps99
  go_wp2_with (go_at_call 120; refine (HC.out).mono ?_; rintro e1 w1 ⟨v1, rfl, hr1, hb1, hg1⟩; refine Hid.out ?_)
  refine Lib.hid ?_
  have HR1 := Lib.hid hr1
  have HB1 := Lib.hid hb1
  have HG1 := Lib.hid hg1
  clear hr1 hb1 hg1
  go_wp2_with fail
  go_ret
  exact ⟨v1, rfl, HR1.out, HB1.out, HG1.out⟩
def keyOne (m : S166) : List Int := t36 m.f0.toNat ++ [58] ++ t36 m.f1.toNat ++ [32]
def keyS (l : List S166) : List Int := l.flatMap keyOne
theorem keyS_snoc (l : List S166) (m : S166) : keyS (l ++ [m]) = keyS l ++ t36 m.f0.toNat ++ [58] ++ t36 m.f1.toNat ++ [32] := by
  unfold keyS
  rw [List.flatMap_append]
  simp [keyOne]
theorem t36_len (u : Nat) : (t36 u).length ≤ 13 := t36N_len 12 u
theorem keyS_len : ∀ l : List S166, (keyS l).length ≤ 28 * l.length
  | [] => Nat.le_refl _
  | m :: l => by
    have := keyS_len l
    have h1 := t36_len m.f0.toNat
    have h2 := t36_len m.f1.toNat
    have e : keyS (m :: l) = keyOne m ++ keyS l := by simp [keyS]
    rw [e, List.length_append, List.length_cons]
    simp only [keyOne, List.length_append, List.length_singleton]
    omega
set_option maxRecDepth 100000 in
set_option maxHeartbeats 4000000 in
theorem key_any (w : World) (Al : Option Addr) (cl : Nat) (l : List S166) (hl : k166.C w Al l.length l) (N : Nat) (hN : N ≤ 1048576) (hm : FitM N l) :
    Calls Tryd.prog 66 #[.slice Al l.length cl] w fun e w' => e = .returned (.string (strOfNums (keyS l))) ∧ Below w.heap.size w w' := by
  have HL := Lib.hid hl
  have HM := Lib.hid hm
  have hln := hm.len
  have HB0 := Lib.hid (Below.refl w.heap.size w)
  have HR0 := Lib.hid (Kd.R_nil kB 5 w w.heap.size tru)
  clear hl hm
  go_enter Tryd.func66, Tryd.ntmps66
  go_wp2_with fail
  go_loopw [3, 8] (fun v3 v w' => ∃ (i : Nat) (A3 : Option Addr) (n3 c3 : Nat), v = .int .i64 (i : Int) ∧ v3 = .slice A3 n3 c3 ∧ i ≤ l.length ∧ Hid (kB.R 5 w' w.heap.size tru (.slice A3 n3 c3) (keyS (l.take i))) ∧ Hid (Below w.heap.size w w')) (fun _ v _ => l.length - (intOf v).toNat)
  case atStart => exact ⟨0, _, _, _, rfl, rfl, Nat.zero_le _, HR0, HB0⟩
  case round =>
    clear HR0 HB0
    obtain ⟨i, A3, n3, c3, rfl, rfl, hi, HR, HB⟩ := hrel
    by_cases hil : i < l.length
    · obtain ⟨adm, rfl, m0, m1⟩ := at_T166 (Kd.C_below HL.out HB.out) (i : Int) (by omega) (by omega)
      rw [Int.toNat_natCast] at m0 m1
      have HTS := Lib.hid (take_snoc166 hil)
      have hsp := HM.out.spot _ (rd166_mem hil)
      have hlo := HM.out.looks _ (rd166_mem hil)
      generalize rd_T166 l (i : Int) = mk at *
      obtain ⟨msp, mlo⟩ := mk
      simp only at m0 m1 hsp hlo
      obtain ⟨ms, rfl⟩ := Int.eq_ofNat_of_zero_le hsp.1
      obtain ⟨ml, rfl⟩ := Int.eq_ofNat_of_zero_le hlo.1
      have hib : decide ((i : Int) < (l.length : Int)) = true := decide_eq_true (by omega)
      have hi0 : (0 : Int) ≤ (i : Int) := by omega
      have hi1 : (i : Int) < (l.length : Int) := by omega
      have hiw : IntKind.i64.wrap ((i : Int) + 1) = (i : Int) + 1 := IntWalk.i64_in _ (by omega)
      have hms : ms < 9223372036854775808 := by omega
      have HML : Hid (ml < two64) := Lib.hid (by unfold two64; omega)
      have hkl : (keyS (l.take i)).length ≤ 29360128 := by
        have := keyS_len (l.take i)
        rw [List.length_take] at this
        omega
      have hi2 : i + 1 ≤ l.length := hil
      have hme : l.length - (i + 1) < l.length - i := by omega
      have h1l := t36_len ms
      have h2l := t36_len ml
      have HRA := Lib.hid (Kd.R_alloc HR.out (.cells #[.int .i64 (ms : Int), .int .u64 (ml : Int)] 166))
      have HBA := Lib.hid (below_alloc HB.out (.cells #[.int .i64 (ms : Int), .int .u64 (ml : Int)] 166))
      have HMA := Lib.hid (blk_new wr (.cells #[.int .i64 (ms : Int), .int .u64 (ml : Int)] 166))
      have hwl : w.heap.size ≤ wr.heap.size := HB.out.size
      clear hsp hlo HR HB
      generalize hK : keyS (l.take i) = ks at *
      have HK := Lib.hid hK
      clear hK
      go_wp2_with (go_at_call 99; refine (appInt_any ms hms w.heap.size _ _ ks HRA.out HBA.out.size (by omega)).mono ?_; rintro e1 w1 ⟨v1, rfl, hr1, hb1, hg1⟩; refine Hid.out ?_)
      refine Lib.hid ?_
      have HM1 := Lib.hid (blk_grown HMA.out hg1 (Kd.R_ne HRA.out HMA.out (by decide)))
      have HR1 := Lib.hid hr1
      have HB1 := Lib.hid (HBA.out.trans hb1)
      clear hr1 hb1 hg1 HRA HBA HMA m0 m1
      obtain ⟨A4, c4, rfl, -, -⟩ := Kd.R_reads HR1.out
      generalize hn4 : (ks ++ t36 ms).length = n4 at HR1
      try rw [hn4]
      have hn4b : n4 ≤ 29360141 := by rw [← hn4, List.length_append]; omega
      have HN4 := Lib.hid hn4
      clear hn4
      have HR2 := Lib.hid (Kd.R_alloc HR1.out (.cells #[.int .u8 58] 5))
      have HB2 := Lib.hid (below_alloc HB1.out (.cells #[.int .u8 58] 5))
      have HM2 := Lib.hid (blk_alloc HM1.out (.cells #[.int .u8 58] 5))
      have HL2 := Lib.hid (C_lit1 (k := kB) (x := 58) (cs := [.int .u8 58]) rfl (blk_new w1 (.cells #[.int .u8 58] 5)))
      have hbo1 : ((ks ++ t36 ms).length + 1) * 1 ≤ 140737488355328 := by rw [HN4.out]; omega
      go_wp2_with ((with_reducible refine gate_builtin (b := .append) (xs := #[.tmp 16, .tmp 17]) rfl ?_); refine Hid.out ?_)
      refine Lib.hid ?_
      at_builtin
      refine Kd.R_append_rows kB (w0 := w) w.heap.size rfl (.tmp 16) (.tmp 17) 70 5 (.int .u8 0) 1 rfl Tryd.underlying70 info5 rfl (by decide) (by decide) _ (ks ++ t36 ms) [58] (some ⟨_, 0, none⟩) 1 1 tru (fun _ => False) rfl rfl HR2.out HL2.out (fun _ _ h => h) (fun _ h => h.elim) (fun _ _ => trivial) HB2.out HB2.out.size hbo1 ?_
      intro v5 w5 ho5 hb5 hg5 hat5
      have HM5 := Lib.hid (blk_grown HM2.out hg5 (Kd.R_ne HR2.out HM2.out (by decide)))
      have HR5 := Lib.hid ho5
      have HB5 := Lib.hid hb5
      clear ho5 hb5 hg5 hat5 HR2 HB2 HM2 HL2 HR1 HB1 HM1
      have q1 := blk_cell HM5.out 1
      simp at q1
      have hb5l : (ks ++ t36 ms ++ [58]).length ≤ 67108864 := by rw [List.length_append, HN4.out, List.length_singleton]; omega
      go_wp2_with (go_at_call 100; refine (appUint_any ml HML.out w.heap.size _ _ (ks ++ t36 ms ++ [58]) HR5.out HB5.out.size hb5l).mono ?_; rintro e6 w6 ⟨v6, rfl, hr6, hb6, hg6⟩; refine Hid.out ?_)
      refine Lib.hid ?_
      have HR6 := Lib.hid hr6
      have HB6 := Lib.hid (HB5.out.trans hb6)
      clear hr6 hb6 hg6 HR5 HB5 HM5 q1
      obtain ⟨A7, c7, rfl, -, -⟩ := Kd.R_reads HR6.out
      have hbo7 : ((ks ++ t36 ms ++ [58] ++ t36 ml).length + 1) * 1 ≤ 140737488355328 := by rw [List.length_append]; omega
      generalize hn7 : (ks ++ t36 ms ++ [58] ++ t36 ml).length = n7 at HR6
      try rw [hn7]
      clear hn7
      have HR7 := Lib.hid (Kd.R_alloc HR6.out (.cells #[.int .u8 32] 5))
      have HB7 := Lib.hid (below_alloc HB6.out (.cells #[.int .u8 32] 5))
      have HL7 := Lib.hid (C_lit1 (k := kB) (x := 32) (cs := [.int .u8 32]) rfl (blk_new w6 (.cells #[.int .u8 32] 5)))
      go_wp2_with ((with_reducible refine gate_builtin (b := .append) (xs := #[.tmp 23, .tmp 24]) rfl ?_); refine Hid.out ?_)
      refine Lib.hid ?_
      at_builtin
      refine Kd.R_append_rows kB (w0 := w) w.heap.size rfl (.tmp 23) (.tmp 24) 70 5 (.int .u8 0) 1 rfl Tryd.underlying70 info5 rfl (by decide) (by decide) _ (ks ++ t36 ms ++ [58] ++ t36 ml) [32] (some ⟨_, 0, none⟩) 1 1 tru (fun _ => False) rfl rfl HR7.out HL7.out (fun _ _ h => h) (fun _ h => h.elim) (fun _ _ => trivial) HB7.out HB7.out.size hbo7 ?_
      intro v8 w8 ho8 hb8 hg8 hat8
      obtain ⟨A9, c9, rfl, -, -⟩ := Kd.R_reads ho8
      generalize hn9 : (ks ++ t36 ms ++ [58] ++ t36 ml ++ [32]).length = n9 at ho8
      try rw [hn9]
      have HR9 : Hid (kB.R 5 w8 w.heap.size tru (.slice A9 n9 c9) (keyS (l.take (i + 1)))) := Lib.hid (by
        rw [HTS.out, keyS_snoc, HK.out]
        exact ho8)
      have HB9 := Lib.hid hb8
      clear hn9 ho8 hb8 hg8 hat8 HR7 HB7 HL7 HR6 HB6
      go_wp2_with fail
      go_roundw
      case rel => first | exact ⟨i + 1, _, _, _, by rw [Int.natCast_add]; rfl, rfl, hi2, HR9, HB9⟩ | ((repeat apply Exists.intro); exact ⟨⟨i + 1, _, _, _, by rw [Int.natCast_add]; rfl, rfl, hi2, HR9, HB9⟩, rfl⟩)
      case measure => exact hme
    · have hib : decide ((i : Int) < (l.length : Int)) = false := decide_eq_false (by omega)
      have hie : i = l.length := by omega
      subst hie
      rw [List.take_length] at HR
      obtain ⟨hn3, hc3, hC3⟩ := Kd.R_reads' HR.out
      have hst := Kd.C_string (P := Tryd.prog) (dst := 9) (c := c3) (w := wr) Tryd.underlying70 Tryd.underlying5 Tryd.underlying9 (by rw [← hn3] at hC3; exact hC3)
      clear hil hn3 hc3 hC3
      go_wp2_with fail
      go_ret
      exact ⟨rfl, HB.out⟩
end Bld
end Go.Proofs.YtcijanmckhlpiaaDoor
