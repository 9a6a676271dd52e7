import Derived.Test.YtcijanmckhlpiaaDoorPaintLang
namespace Go.Proofs.YtcijanmckhlpiaaDoor
open Go.RowKit Go.Proofs.YtcijanmckhlpiaaDoorW.PrintWords Go.Proofs.YtcijanmckhlpiaaDoorW.PrintLast Go.Proofs.YtcijanmckhlpiaaDoorW.PrintMore Go.Proofs.YtcijanmckhlpiaaDoor.PPaintLines
set_option linter.unusedVariables false
set_option linter.unusedSimpArgs false
namespace Paint
def rdP (xs : List PD) (i : Int) : PD := xs.getD i.toNat (⟨#[]⟩, ⟨#[]⟩)
theorem rdP_get (xs : List PD) (i : Nat) (h : i < xs.length) : rdP xs (i : Int) = xs[i] := by
  unfold rdP
  rw [Int.toNat_natCast, List.getD_eq_getElem?_getD, List.getElem?_eq_getElem h]; rfl
theorem at_P {w : World} {A : Option Addr} {n : Nat} {xs : List PD} (h : kPD.C w A n xs) (i : Int) (h0 : 0 ≤ i) (h1 : i < n) : ∃ ad, A = some ad ∧ w.cell? (ad.add (i.toNat * 2)) = some (.string (rdP xs i).1) ∧ w.cell? ⟨(ad.add (i.toNat * 2)).block, (ad.add (i.toNat * 2)).off + 1, none⟩ = some (.string (rdP xs i).2) := by
  obtain ⟨ad, c, e, _, hK, hc0⟩ := Kd.C_get h (⟨#[]⟩, ⟨#[]⟩) i h0 h1
  have hc : ∀ j u, c[j]? = some u → w.cell? (ad.add (i.toNat * 2 + j)) = some u := hc0
  obtain rfl := kPD_open hK
  exact ⟨ad, e, hc 0 _ rfl, by rw [← add_field _ _ 1 (by omega)]; exact hc 1 _ rfl⟩
/-- The class of the first paint line of a name. -/
def lineS (s : ByteArray) : List PD → Option ByteArray
  | [] => none
  | p :: r => if (p.1.toList == s.toList) = true then some p.2 else lineS s r
end Paint
end Go.Proofs.YtcijanmckhlpiaaDoor
