import Derived.Test.YtcijanmckhlpiaaDoorDNum
import Derived.Test.YtcijanmckhlpiaaDoorErrs
import Derived.Test.YtcijanmckhlpiaaDoorPTableDecodesx1
namespace Go.Proofs.YtcijanmckhlpiaaDoor
open Go.RowKit Go.Proofs.YtcijanmckhlpiaaDoorW.PrintWords Go.Proofs.YtcijanmckhlpiaaDoorW.PrintLast Go.Proofs.YtcijanmckhlpiaaDoorW.PrintMore
set_option linter.unusedVariables false
set_option linter.unusedSimpArgs false
namespace Dec
def within (s : ByteArray) (lo hi : Int) (p : Nat) : Option (Int × Nat) := (num s p).bind fun r => if lo ≤ r.1 ∧ r.1 ≤ hi then some r else none
/-- The error: the image's code and the place. -/
def IsBad (w w' : World) (p : Nat) (ev : Value) : Prop := ∃ b, w.heap.size ≤ b ∧ ev = .iface 78 (.pointer (some ⟨b, 0, none⟩)) ∧ w'.heap[b]? = some (.cells #[.int .i64 131, .int .i64 (p : Int)] 80 (0, 0))
def WithinE (o : Option (Int × Nat)) (w w' : World) (p : Nat) (e : Ending) (q : Nat) : Prop := match o with
  | some r => e = .returned (.tuple #[.int .i64 r.1, .nilIface]) ∧ q = r.2
  | none => ∃ ev, e = .returned (.tuple #[.int .i64 0, ev]) ∧ IsBad w w' p ev
theorem within_bound {s : ByteArray} {lo hi : Int} {p : Nat} {r : Int × Nat} (h : within s lo hi p = some r) : lo ≤ r.1 ∧ r.1 ≤ hi ∧ p < r.2 ∧ r.2 ≤ s.size := by
  unfold within at h
  rcases hn : num s p with _ | x
  · rw [hn] at h; cases h
  · rw [hn] at h
    simp only [Option.bind_some] at h
    split at h
    · cases h
      have := num_bound hn
      exact ⟨by omega, by omega, this.2.2.1, this.2.2.2⟩
    · cases h
theorem Rel.alloc {w0 w W : World} {g q : Nat} {s : ByteArray} (h : Rel w0 w W g s q) (o : Obj) : Rel w0 w (W.alloc o) g s q :=
  ⟨h.is.below (below_alloc (Below.refl _ _) o), below_step h.below (below_alloc (Below.refl _ _) o), keep_alloc h.keep o⟩
theorem Rel.size {w0 w W : World} {g q : Nat} {s : ByteArray} (h : Rel w0 w W g s q) : w.heap.size ≤ W.heap.size := h.keep.1
set_option maxRecDepth 100000 in
set_option maxHeartbeats 4000000 in
theorem within_any (s : ByteArray) (g p : Nat) (lo hi : Int) (w0 w : World) (hI : IsR w0 w g s p) (hB : Below w0.heap.size w0 w) (hs : s.size ≤ 140737488351232) (hp : p ≤ s.size) :
    Calls Tryd.prog 48 #[.pointer (some ⟨g, 0, none⟩), .int .i64 lo, .int .i64 hi] w fun e w' => ∃ q, q ≤ s.size ∧ Rel w0 w w' g s q ∧ WithinE (within s lo hi p) w w' p e q := by
  have hz1 := (blk_cell hI.1 1)
  simp at hz1
  have HN := Lib.hid (number_any s g p w0 w hI hB hs hp)
  clear hI hB
  go_enter Tryd.func48, Tryd.ntmps48
  go_wp2_with fail
  refine HN.out.mono ?_
  rintro e w1 ⟨q, hq, hR, hN⟩
  have HR := Lib.hid hR
  clear hR hz1 HN
  rcases hn : num s p with _ | ⟨n, qn⟩
  · rw [hn] at hN
    subst hN
    have hw : within s lo hi p = none := by unfold within; rw [hn]; rfl
    have HW := Lib.hid hw
    clear hw hn
    go_wp2_with (go_at_call 34; refine (Errs.is_count _ _).mono ?_; rintro e w' ⟨rfl, rfl⟩)
    go_ret2
    exact ⟨q, hq, HR.out.alloc _, by rw [HW.out]; exact ⟨_, rfl, _, HR.out.size, rfl, blk_new _ _⟩⟩
  · rw [hn] at hN
    obtain ⟨rfl, rfl⟩ := hN
    have hb := num_bound hn
    simp only at hb hq
    by_cases hlo : n < lo
    · have hw : within s lo hi p = none := by unfold within; rw [hn]; exact if_neg (by simp only; omega)
      have HW := Lib.hid hw
      clear hw hn
      go_wp2_with (go_at_call 34; refine (Errs.is_nil _ _).mono ?_; rintro e w' ⟨rfl, rfl⟩)
      go_ret2
      exact ⟨q, hq, HR.out.alloc _, by rw [HW.out]; exact ⟨_, rfl, _, HR.out.size, rfl, blk_new _ _⟩⟩
    · by_cases hhi : hi < n
      · have hw : within s lo hi p = none := by unfold within; rw [hn]; exact if_neg (by simp only; omega)
        have HW := Lib.hid hw
        clear hw hn
        go_wp2_with (go_at_call 34; refine (Errs.is_nil _ _).mono ?_; rintro e w' ⟨rfl, rfl⟩)
        go_ret2
        exact ⟨q, hq, HR.out.alloc _, by rw [HW.out]; exact ⟨_, rfl, _, HR.out.size, rfl, blk_new _ _⟩⟩
      · have hw : within s lo hi p = some (n, q) := by unfold within; rw [hn]; exact if_pos (by simp only; omega)
        have HW := Lib.hid hw
        clear hw hn
        go_wp2_with (go_at_call 34; refine (Errs.is_nil _ _).mono ?_; rintro e w' ⟨rfl, rfl⟩)
        go_ret2
        exact ⟨q, hq, HR.out, by rw [HW.out]; exact ⟨rfl, rfl⟩⟩
end Dec
end Go.Proofs.YtcijanmckhlpiaaDoor
