import Derived.Test.YtcijanmckhlpiaaPaintLang
namespace Go.Proofs.Ytcijanmckhlpiaa
open Go.RowKit Go.Proofs.YtcijanmckhlpiaaW.PrintWords Go.Proofs.YtcijanmckhlpiaaW.PrintLast Go.Proofs.YtcijanmckhlpiaaW.PrintMore Go.Proofs.Ytcijanmckhlpiaa.PPaintClasses
set_option linter.unusedVariables false
set_option linter.unusedSimpArgs false
namespace Paint
def rdP (xs : List PD) (i : Int) : PD := xs.getD i.toNat (⟨#[]⟩, ⟨#[]⟩)
theorem rdP_get (xs : List PD) (i : Nat) (h : i < xs.length) : rdP xs (i : Int) = xs[i] := by
  unfold rdP
  rw [Int.toNat_natCast, List.getD_eq_getElem?_getD, List.getElem?_eq_getElem h]; rfl
theorem at_P {w : World} {A : Option Addr} {n : Nat} {xs : List PD} (h : k99.C w A n xs) (i : Int) (h0 : 0 ≤ i) (h1 : i < n) : ∃ ad, A = some ad ∧ w.cell? (ad.add (i.toNat * 2)) = some (.string (rdP xs i).1) ∧ w.cell? ⟨(ad.add (i.toNat * 2)).block, (ad.add (i.toNat * 2)).off + 1, none⟩ = some (.string (rdP xs i).2) := by
  obtain ⟨ad, c, e, _, hK, hc0⟩ := Kd.C_get h (⟨#[]⟩, ⟨#[]⟩) i h0 h1
  have hc : ∀ j u, c[j]? = some u → w.cell? (ad.add (i.toNat * 2 + j)) = some u := hc0
  obtain rfl := k99_open hK
  exact ⟨ad, e, hc 0 _ rfl, by rw [← add_field _ _ 1 (by omega)]; exact hc 1 _ rfl⟩
/-- The class of the first paint line of a name. -/
def lineS (s : ByteArray) : List PD → Option ByteArray
  | [] => none
  | p :: r => if (p.1.toList == s.toList) = true then some p.2 else lineS s r
set_option maxRecDepth 100000 in
set_option maxHeartbeats 4000000 in
theorem line_any (A : Option Addr) (c : Nat) (l : List PD) (s : ByteArray) (w : World) (hr : k99.C w A l.length l) (hz : l.length ≤ 1048576) :
    Calls Try.prog 37 #[LG (.slice A l.length c), .string s] w fun e w' => e = .returned (.tuple #[.string ((lineS s l).getD ⟨#[]⟩), .bool (lineS s l).isSome]) ∧ Below w.heap.size w w' := by
  have HR := Lib.hid hr
  clear hr
  unfold LG
  have HX := Lib.hid (blk_new w (.cells #[.string ⟨#[]⟩, .slice none 0 0, .slice none 0 0, .slice none 0 0, .slice none 0 0, .slice none 0 0, .slice none 0 0, .slice none 0 0, .slice A l.length c, .slice none 0 0, .slice none 0 0, .slice none 0 0] 60))
  have HB := Lib.hid (below_alloc (Below.refl _ w) (.cells #[.string ⟨#[]⟩, .slice none 0 0, .slice none 0 0, .slice none 0 0, .slice none 0 0, .slice none 0 0, .slice none 0 0, .slice none 0 0, .slice A l.length c, .slice none 0 0, .slice none 0 0, .slice none 0 0] 60))
  go_enter Try.func37, Try.ntmps37
  have tok : True := trivial
  go_wp2_with fail
  generalize hw0 : w.alloc (.cells #[.string ⟨#[]⟩, .slice none 0 0, .slice none 0 0, .slice none 0 0, .slice none 0 0, .slice none 0 0, .slice none 0 0, .slice none 0 0, .slice A l.length c, .slice none 0 0, .slice none 0 0, .slice none 0 0] 60) = w0 at *
  clear hw0
  go_loopw [6] (fun v w' => ∃ i : Nat, v = .int .i64 i ∧ i ≤ l.length ∧ w' = w0 ∧ Hid (lineS s (l.drop i) = lineS s l)) (fun v _ => l.length - (intOf v).toNat)
  case atStart => exact ⟨0, rfl, Nat.zero_le _, rfl, rfl⟩
  case round =>
    obtain ⟨i, rfl, hi, rfl, HL⟩ := hrel
    have q8 := blk_cell HX.out 8
    simp only [List.getElem?_toArray, List.getElem?_cons_zero, List.getElem?_cons_succ] at q8
    by_cases hlt : i < l.length
    · obtain ⟨ad, rfl, g1, g2⟩ := at_P (Kd.C_below HR.out HB.out) i (by omega) (by omega)
      have hL : lineS s (l.drop i) = if ((rdP l i).1.toList == s.toList) = true then some (rdP l i).2 else lineS s (l.drop (i + 1)) := by
        rw [List.drop_eq_getElem_cons hlt, rdP_get l i hlt]; rfl
      rw [hL] at HL
      generalize rdP l i = p at *
      have HL1 := HL
      clear hL HL
      have j1 : (0 : Int) ≤ (i : Int) := Int.natCast_nonneg _
      have j2 : (i : Int) < (l.length : Int) := by omega
      rw [Int.toNat_natCast] at g1 g2
      cases hs : (p.1.toList == s.toList) with
      | true =>
        rw [hs, if_pos rfl] at HL1
        go_wp2_with fail
        go_ret2
        refine ⟨?_, HB.out⟩
        rw [← HL1.out]; rfl
      | false =>
        rw [hs, if_neg (by decide)] at HL1
        go_wp2_with fail
        go_roundw
        case rel => exact ⟨i + 1, by go_num, by omega, by first | trivial | rfl, HL1⟩
        case measure => simp [intOf]; omega
    · have hie : i = l.length := by omega
      subst hie
      have HL1 := HL
      rw [List.drop_length] at HL1
      go_wp2_with fail
      go_ret2
      refine ⟨?_, HB.out⟩
      rw [← HL1.out]; rfl
end Paint
end Go.Proofs.Ytcijanmckhlpiaa
