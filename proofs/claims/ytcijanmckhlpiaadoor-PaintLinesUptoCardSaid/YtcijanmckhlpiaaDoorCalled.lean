import Derived.Test.YtcijanmckhlpiaaDoorLinesPlain
import Derived.Test.YtcijanmckhlpiaaDoorShelf
import Derived.Lib.AppendIntMem
import Derived.Lib.SmallJoins
import Derived.Lib.ItoaLen
namespace Go.Proofs.YtcijanmckhlpiaaDoor
open Go.RowKit Go.Proofs.YtcijanmckhlpiaaDoorW.PrintWords Go.Proofs.YtcijanmckhlpiaaDoorW.PrintLast Go.Proofs.YtcijanmckhlpiaaDoorW.PrintMore Go.Proofs.YtcijanmckhlpiaaDoor.PPaintLines
set_option linter.unusedVariables false
set_option linter.unusedSimpArgs false
namespace Paint
abbrev Tab (w : World) : Prop := Lib.TabIs Tryd.prog w "internal/strconv.uint64pow10" .u64 Lib.pow10Tab
theorem Tab.below {w w' : World} (h : Tab w) (hb : Below w.heap.size w w') : Tab w' := Lib.tabBelow_of_tabIs h w' hb
theorem calGo_step {cl : ByteArray} {l : List PD} {i : Nat} (hi : i < l.length) : calGo cl i (l.drop i) = if (rdP l (i : Int)).2 = cl ∧ cl ≠ emB then cName i else calGo cl (i + 1) (l.drop (i + 1)) := by
  rw [List.drop_eq_getElem_cons hi, rdP_get l i hi]
  rfl
set_option maxRecDepth 100000 in
set_option maxHeartbeats 4000000 in
theorem called_any (A : Option Addr) (c : Nat) (l : List PD) (cl : ByteArray) (w : World) (hr : kPD.C w A l.length l) (hz : l.length ≤ 1048576) (htab : Tab w) :
    Calls Tryd.prog 15 #[.slice A l.length c, .string cl] w fun e w' => e = .returned (.string (calS l cl)) ∧ Below w.heap.size w w' := by
  have HR := Lib.hid hr
  have HT := Lib.hid htab
  have HC0 : Hid (calGo cl 0 (l.drop 0) = calS l cl) := Lib.hid (by rw [List.drop_zero]; rfl)
  clear hr htab
  go_enter Tryd.func15, Tryd.ntmps15
  go_wp2_with fail
  go_loopw [5] (fun v w' => ∃ i : Nat, v = .int .i64 (i : Int) ∧ i ≤ l.length ∧ w' = w ∧ Hid (calGo cl i (l.drop i) = calS l cl)) (fun v _ => l.length - (intOf v).toNat)
  case atStart => exact ⟨0, rfl, Nat.zero_le _, rfl, HC0⟩
  case round =>
    clear HC0
    obtain ⟨i, rfl, hi, rfl, HC⟩ := hrel
    by_cases hil : i < l.length
    · obtain ⟨ad, rfl, g0, g1⟩ := at_P HR.out (i : Int) (by omega) (by omega)
      rw [Int.toNat_natCast] at g0 g1
      have hst := calGo_step (cl := cl) hil
      rw [HC.out] at hst
      generalize rdP l (i : Int) = x at *
      have HS := Lib.hid hst
      have hib : decide ((i : Int) < (l.length : Int)) = true := decide_eq_true (by omega)
      have hi0 : (0 : Int) ≤ (i : Int) := by omega
      have hi1 : (i : Int) < (l.length : Int) := by omega
      have hiw : IntKind.i64.wrap ((i : Int) + 1) = (i : Int) + 1 := IntWalk.i64_in _ (by omega)
      clear hst HC
      by_cases hx : x.2 = cl
      · have hxb : (x.2.toList == cl.toList) = true := bq_iff.2 hx
        by_cases hc : cl = emB
        · have hce2 : (cl.toList == (⟨#[]⟩ : ByteArray).toList) = true := bq_iff.2 hc
          have hce3 : cl.toList.isEmpty = true := by rw [← emp_eq]; exact hce2
          have hn := HS.out
          rw [if_neg (fun h => h.2 hc)] at hn
          have HN := Lib.hid hn.symm
          clear hn HS hc hx
          go_wp2_with fail
          go_roundw
          case rel => exact ⟨i + 1, by rw [Int.natCast_add]; rfl, by omega, (by first | exact rfl | exact trivial), HN⟩
          case measure => simp only [intOf]; omega
        · have hce2 : (cl.toList == (⟨#[]⟩ : ByteArray).toList) = false := Bool.eq_false_iff.2 (fun h => hc (bq_iff.1 h))
          have hce3 : cl.toList.isEmpty = false := by rw [← emp_eq]; exact hce2
          have hn := HS.out
          rw [if_pos ⟨hx, hc⟩] at hn
          have HN := Lib.hid hn
          clear hn HS hc hx
          have hln : 1 + (Lib.itoa (i : Int)).length ≤ 9223372036854775807 := by have := Lib.itoa_length_le (i : Int) (by omega) (by omega); omega
          go_wp2_with (go_at_call 36; refine (strconv_Itoa_all (i : Int) (by omega) (by omega) _ HT.out).mono ?_; rintro e w' ⟨rfl, k, os, rfl⟩)
          go_ret
          exact ⟨by rw [HN.out]; rfl, Lib.below_grow _ _ (Nat.le_refl _) _ _⟩
      · have hxb : (x.2.toList == cl.toList) = false := Bool.eq_false_iff.2 (fun h => hx (bq_iff.1 h))
        have hn := HS.out
        rw [if_neg (fun h => hx h.1)] at hn
        have HN := Lib.hid hn.symm
        clear hn HS
        go_wp2_with fail
        go_roundw
        case rel => exact ⟨i + 1, by rw [Int.natCast_add]; rfl, by omega, (by first | exact rfl | exact trivial), HN⟩
        case measure => simp only [intOf]; omega
    · obtain rfl : i = l.length := by omega
      have hn := HC.out
      rw [List.drop_length] at hn
      have HN : Hid (calS l cl = emB) := Lib.hid hn.symm
      have hib : decide ((l.length : Int) < (l.length : Int)) = false := decide_eq_false (by omega)
      clear hn HC
      go_wp2_with fail
      go_ret
      exact ⟨by rw [HN.out]; rfl, Below.refl _ _⟩
end Paint
end Go.Proofs.YtcijanmckhlpiaaDoor
