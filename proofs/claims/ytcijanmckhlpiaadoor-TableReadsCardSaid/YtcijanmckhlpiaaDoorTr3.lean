-- Texts of this seat, cut to what is used and merged (by shake.py).
import Derived.Test.YtcijanmckhlpiaaDoorTr1
import Derived.Test.YtcijanmckhlpiaaDoorTr2
import Derived.Deep.QuietTactic
import Derived.BigQuiet
import Derived.Lib.Hide
namespace Go.Proofs.YtcijanmckhlpiaaDoor
open Go.RowKit Go.Proofs.YtcijanmckhlpiaaDoorW.PrintWords Go.Proofs.YtcijanmckhlpiaaDoorW.PrintLast Go.Proofs.YtcijanmckhlpiaaDoorW.PrintMore
set_option linter.unusedVariables false
set_option linter.unusedSimpArgs false
namespace Dec
def ErrType (w : World) : Prop := w.cell? ⟨0, 0, none⟩ = some (.iface 192 (.agg #[.pointer (some ⟨4, 27, none⟩)]))
theorem ErrType.lt {w : World} (h : ErrType w) : 0 < w.heap.size := by
  rcases Nat.eq_zero_or_pos w.heap.size with h0 | h1
  · simp [ErrType, World.cell?, h0] at h
  · exact h1
theorem ErrType.below {w W : World} (h : ErrType w) (hb : Below w.heap.size w W) : ErrType W := pw_cell_below hb h
theorem as_hit2 (e tb : Nat) (w : World) (hg : ErrType w) (ht : w.heap[tb]? = some (.cells #[.pointer none] 78 (0, 0))) :
    Calls Tryd.prog 33 #[.iface 78 (.pointer (some ⟨e, 0, none⟩)), .iface 97 (.pointer (some ⟨tb, 0, none⟩))] w fun ev w' => ev = .returned (.bool true) ∧ w'.heap[tb]? = some (.cells #[.pointer (some ⟨e, 0, none⟩)] 78 (0, 0)) ∧ KeepBut w w' tb none ∧ (∀ {B : Nat} {w0 : World}, Below B w0 w → B ≤ tb → B ≤ w.heap.size → Below B w0 w') := by
  refine (Errs.as_hit ⟨e, 0, none⟩ ⟨tb, 0, none⟩ (.pointer none) w hg ((blk_cell ht 0).trans rfl) (blk_frozen ht 0)).mono ?_
  rintro ev w' ⟨h1, rfl⟩
  refine ⟨h1, blk_put (blk_alloc (blk_alloc (blk_alloc (blk_alloc ht _) _) _) _) 0 _ rfl, KeepBut.set_ (keep_alloc (keep_alloc (keep_alloc (keep_alloc (KeepBut.refl _ _ _) _) _) _) _) 0 _, ?_⟩
  intro B w0 hb h2 h3
  exact ((((hb.alloc h3 _).alloc (by rw [World.size_alloc]; omega) _).alloc (by rw [World.size_alloc, World.size_alloc]; omega) _).alloc (by rw [World.size_alloc, World.size_alloc, World.size_alloc]; omega) _).setCell h2 _
set_option maxRecDepth 100000 in
set_option maxHeartbeats 4000000 in
theorem told_bad (b : Nat) (c p : Int) (w : World) (hg : ErrType w) (hb : w.heap[b]? = some (.cells #[.int .i64 c, .int .i64 p] 80 (0, 0))) :
    Calls Tryd.prog 11 #[.iface 78 (.pointer (some ⟨b, 0, none⟩))] w fun e w' => e = .returned (.tuple #[.int .i64 c, .int .i64 p]) ∧ Below w.heap.size w w' := by
  have HT := Lib.hid (blk_new w (.cells #[.pointer none] 78))
  have HG := Lib.hid (hg.below (below_alloc (Below.refl _ w) (.cells #[.pointer none] 78)))
  have HB := Lib.hid (blk_alloc hb (.cells #[.pointer none] 78))
  have hlt := blk_lt hb
  clear hg hb
  go_enter Tryd.func11, Tryd.ntmps11
  go_wp2_with fail
  refine (as_hit2 b w.heap.size _ HG.out HT.out).mono ?_
  rintro e w1 ⟨rfl, hT1, hK1, hB1⟩
  have hB2 := hB1 (below_alloc (Below.refl _ w) (.cells #[.pointer none] 78)) (Nat.le_refl _) (by rw [World.size_alloc]; omega)
  have HT1 := Lib.hid hT1
  have HB1 := Lib.hid (hK1.blk HB.out (by omega) (by simp))
  have HB2 := Lib.hid hB2
  clear hT1 hK1 hB1 hB2 HT HG HB
  have ht0 := blk_cell HT1.out 0
  have hb0 := blk_cell HB1.out 0
  have hb1 := blk_cell HB1.out 1
  simp at ht0 hb0 hb1
  go_wp2_with (go_at_call 34; refine (Errs.is_code ⟨b, 0, none⟩ c _ (by assumption) rfl).mono ?_; rintro e w' ⟨rfl, rfl⟩)
  go_quiet (fail)
  go_wp2_with fail
  go_ret2
  exact ⟨rfl, pw_below_drewN HB2.out _⟩
end Dec
end Go.Proofs.YtcijanmckhlpiaaDoor
