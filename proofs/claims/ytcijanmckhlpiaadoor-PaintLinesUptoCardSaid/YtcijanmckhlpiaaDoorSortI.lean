import Derived.Test.YtcijanmckhlpiaaDoorPaintPlant
import Derived.Test.YtcijanmckhlpiaaDoorShelf
import Derived.Lib.SlKeysI
import Derived.Shelf.Sort.Plain
namespace Go.Proofs.YtcijanmckhlpiaaDoor
open Go.RowKit Go.Proofs.YtcijanmckhlpiaaDoorW.PrintWords Go.Proofs.YtcijanmckhlpiaaDoorW.PrintLast Go.Proofs.YtcijanmckhlpiaaDoorW.PrintMore Go.Proofs.YtcijanmckhlpiaaDoor.PPaintLines
set_option linter.unusedVariables false
set_option linter.unusedSimpArgs false
namespace Paint
/-- slices.Sort of ints, on a row of the call's own. -/
theorem sortI_any (w : World) (base : Nat) (ss : List Int) (v : Value) (hR : kI.R 3 w base tru v ss) (hp : 0 < ss.length) (hl : ss.length ≤ 4194304) :
    Calls Tryd.prog 38 #[v] w fun e w' => e = .returned (.tuple #[]) ∧ kI.R 3 w' base tru v (ss.mergeSort fun x y => decide (x ≤ y)) ∧ w.grownBy w' v.ownBlock := by
  obtain ⟨g, cap, rfl, hbg, hlt, _⟩ := Kd.R_form hR hp
  have hown := Kd.own_of_R hR
  rcases hown.2 with ⟨h0, _⟩ | ⟨g', cap', cur, hv, hbase, hb, h1, h2, h3, h4⟩
  · cases h0
  cases hv
  have hH : Sort.Holds (Value.int .i64) w g 0 ss.toArray := fun j hj => by
    have hj' : j < ss.length := by simpa using hj
    have hx : ss[j]? = some (ss.toArray[j]!) := by
      rw [List.getElem?_eq_getElem hj', getElem!_pos _ j hj]; simp
    rw [Nat.zero_add]
    exact ⟨cell_of hR j _ hx, froz_of hR (by omega) j⟩
  refine (Any.slices_Sort_int sortLays g 0 cap ss w hH hlt (by omega)).mono ?_
  rintro e w' ⟨rfl, n, os, rfl⟩
  have hl2 : (ss.mergeSort fun x y => decide (x ≤ y)).length = ss.length := List.length_mergeSort ss
  have hs := ownsRow_sorted_i (n := n) (os := os) (ts := ss.mergeSort fun x y => decide (x ≤ y)) hl2 hbase hb h1 h2 h3
  refine ⟨rfl, ?_, grownBy_sorted_i _⟩
  refine Kd.R_of_own ?_ (fun _ _ => trivial)
  rw [hl2]
  exact hs
end Paint
end Go.Proofs.YtcijanmckhlpiaaDoor
