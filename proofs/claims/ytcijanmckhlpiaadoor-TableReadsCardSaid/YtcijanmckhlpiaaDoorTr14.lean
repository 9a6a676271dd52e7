-- Texts of this seat, cut to what is used and merged (by shake.py).
import Derived.Test.YtcijanmckhlpiaaDoorTr0
import Derived.Test.YtcijanmckhlpiaaDoorTr1
import Derived.Test.YtcijanmckhlpiaaDoorProg
import Derived.WalkKit
import Derived.Laws.BitsAllLaws
import Derived.Laws.Bits128
import Derived.Deep.QuietTactic
import Derived.BigQuiet
import Derived.Lib.Hide
import Derived.Lib.VarintBits
namespace Go.Proofs.YtcijanmckhlpiaaDoor
open Go.RowKit Go.Proofs.YtcijanmckhlpiaaDoorW.PrintWords Go.Proofs.YtcijanmckhlpiaaDoorW.PrintLast Go.Proofs.YtcijanmckhlpiaaDoorW.PrintMore
set_option linter.unusedVariables false
set_option linter.unusedSimpArgs false
namespace Dec
def cnt (s : ByteArray) : Nat → Nat → Int → Nat → Option (Int × Nat)
  | 0, _, _, _ => none
  | f + 1, k, n, p => if p < s.size then
      (if bt s p < 128 then (if bt s p = 0 ∧ 0 < k then none else some (n + bt s p % 128 * 2 ^ (7 * k), p + 1))
       else cnt s f (k + 1) (n + bt s p % 128 * 2 ^ (7 * k)) (p + 1)) else none
def num (s : ByteArray) (p : Nat) : Option (Int × Nat) := cnt s 9 0 0 p
theorem cnt_bound (s : ByteArray) : ∀ (f k : Nat) (n : Int) (p : Nat) (r : Int × Nat), f + k = 9 → 0 ≤ n → n < 2 ^ (7 * k) → cnt s f k n p = some r → 0 ≤ r.1 ∧ r.1 < 9223372036854775808 ∧ p < r.2 ∧ r.2 ≤ s.size := by
  intro f
  induction f with
  | zero => intro k n p r _ _ _ h; simp [cnt] at h
  | succ f ih =>
    intro k n p r hk h0 h1 h
    have hb := bt_range s p
    have hp : (2 : Int) ^ (7 * (k + 1)) = 128 * 2 ^ (7 * k) := by rw [show 7 * (k + 1) = 7 * k + 7 by omega, Int.pow_add]; omega
    have hq : (0 : Int) < 2 ^ (7 * k) := Int.pow_pos (by decide)
    have hm : n + bt s p % 128 * 2 ^ (7 * k) < 2 ^ (7 * (k + 1)) := by
      rw [hp]
      have : bt s p % 128 * 2 ^ (7 * k) ≤ 127 * 2 ^ (7 * k) := Int.mul_le_mul_of_nonneg_right (by omega) (by omega)
      omega
    have hn0 : 0 ≤ n + bt s p % 128 * 2 ^ (7 * k) := by
      have : 0 ≤ bt s p % 128 * 2 ^ (7 * k) := Int.mul_nonneg (by omega) (by omega)
      omega
    have hle : (2 : Int) ^ (7 * (k + 1)) ≤ 2 ^ 63 := by
      have h9 : (2 : Nat) ^ (7 * (k + 1)) ≤ 2 ^ 63 := Nat.pow_le_pow_right (by decide) (by omega)
      exact_mod_cast h9
    unfold cnt at h
    split at h
    · split at h
      · split at h
        · cases h
        · cases h
          exact ⟨hn0, by omega, by simp, by simpa using by omega⟩
      · obtain ⟨a, b, c, d⟩ := ih (k + 1) _ (p + 1) r (by omega) hn0 hm h
        exact ⟨a, b, by omega, d⟩
    · cases h
theorem num_bound {s : ByteArray} {p : Nat} {r : Int × Nat} (h : num s p = some r) : 0 ≤ r.1 ∧ r.1 < 9223372036854775808 ∧ p < r.2 ∧ r.2 ≤ s.size := cnt_bound s 9 0 0 p r rfl (Int.le_refl 0) (by decide) h
theorem i64_or_add (n m : Int) (j : Nat) (h0 : 0 ≤ n) (hn : n < 2 ^ j) (h1 : 0 ≤ m) (hm : m % 2 ^ j = 0) (hs : n + m < 9223372036854775808) : bits .or .i64 n m = n + m := by
  obtain ⟨a, rfl⟩ := Int.eq_ofNat_of_zero_le h0
  obtain ⟨b, rfl⟩ := Int.eq_ofNat_of_zero_le h1
  have ha : a < 2 ^ j := by
    have : ((2 ^ j : Nat) : Int) = (2 : Int) ^ j := by simp
    omega
  have hb : b % 2 ^ j = 0 := by
    have : ((2 ^ j : Nat) : Int) = (2 : Int) ^ j := by simp
    rw [← this] at hm
    exact_mod_cast hm
  have hx : b ||| a = b + a := nat_join j b a hb ha
  show IntKind.i64.wrap ((BitVec.ofInt 64 (a : Int) ||| BitVec.ofInt 64 (b : Int)).toNat : Int) = _
  rw [BitVec.toNat_or, ofInt_u64 a (by omega), ofInt_u64 b (by omega), Nat.or_comm, hx, IntWalk.i64_in _ (by omega)]
  omega
end Dec
end Go.Proofs.YtcijanmckhlpiaaDoor
namespace Go.Proofs.YtcijanmckhlpiaaDoor
open Go.RowKit Go.Proofs.YtcijanmckhlpiaaDoorW.PrintWords Go.Proofs.YtcijanmckhlpiaaDoorW.PrintLast Go.Proofs.YtcijanmckhlpiaaDoorW.PrintMore
namespace Dec
def IsR (w0 W : World) (g : Nat) (s : ByteArray) (p : Nat) : Prop := W.heap[g]? = some (.cells #[.string s, .int .i64 (p : Int)] 83 (0, 0)) ∧ w0.heap.size ≤ g
theorem IsR.set {w0 W : World} {g p : Nat} {s : ByteArray} (h : IsR w0 W g s p) (q : Nat) : IsR w0 (W.setCell ⟨g, 1, none⟩ (.int .i64 (q : Int))) g s q := ⟨blk_set h.1 1 _, h.2⟩
theorem IsR.below {w0 W W1 : World} {g p : Nat} {s : ByteArray} (h : IsR w0 W g s p) (hb : Below W.heap.size W W1) : IsR w0 W1 g s p := ⟨blk_grown h.1 (grown_of_below hb none) (by simp), h.2⟩
theorem IsR.drewN {w0 W : World} {g p : Nat} {s : ByteArray} (h : IsR w0 W g s p) (n : Nat) : IsR w0 (W.drewN n) g s p := h
abbrev noCount : Value := .iface 190 (.string { data := #[110, 111, 32, 99, 111, 117, 110, 116] })
def NumE (o : Option (Int × Nat)) (e : Ending) (q : Nat) : Prop := match o with
  | some r => e = .returned (.tuple #[.int .i64 r.1, .nilIface]) ∧ q = r.2
  | none => e = .returned (.tuple #[.int .i64 0, noCount])
structure Rel (w0 w w' : World) (g : Nat) (s : ByteArray) (q : Nat) : Prop where
  is : IsR w0 w' g s q
  below : Below w0.heap.size w0 w'
  keep : KeepBut w w' g none
theorem or_val (k : Nat) (n : Int) (b : Int) (hk : k ≤ 8) (h0 : 0 ≤ n) (h1 : n < 2 ^ (7 * k)) (b0 : 0 ≤ b) (b1 : b < 256) :
    bits .or .i64 n (wrap64 (wrap64 (bits .and .u8 b 127) * 2 ^ (7 * k))) = n + b % 128 * 2 ^ (7 * k) := by
  have hq : (0 : Int) < 2 ^ (7 * k) := Int.pow_pos (by decide)
  have h9 : (2 : Nat) ^ (7 * k) ≤ 2 ^ 56 := Nat.pow_le_pow_right (by decide) (by omega)
  have h8 : (2 : Int) ^ (7 * k) ≤ 2 ^ 56 := by exact_mod_cast h9
  have hm : b % 128 * 2 ^ (7 * k) ≤ 127 * 2 ^ (7 * k) := Int.mul_le_mul_of_nonneg_right (by omega) (by omega)
  have hm0 : 0 ≤ b % 128 * 2 ^ (7 * k) := Int.mul_nonneg (by omega) (by omega)
  rw [u8_and127 b b0 b1, IntWalk.wrap64_in (b % 128) (by omega), IntWalk.wrap64_in _ (by omega)]
  exact i64_or_add n _ (7 * k) h0 h1 hm0 (Int.mul_emod_left _ _) (by omega)
theorem cnt_next {s : ByteArray} {k q : Nat} {n : Int} (hk : k < 9) (hq : q < s.size) (hb : ¬ bt s q < 128) : cnt s (9 - k) k n q = cnt s (9 - (k + 1)) (k + 1) (n + bt s q % 128 * 2 ^ (7 * k)) (q + 1) := by
  rw [show 9 - k = (9 - (k + 1)) + 1 by omega]
  conv => lhs; unfold cnt
  rw [if_pos hq, if_neg hb]
theorem cnt_last {s : ByteArray} {k q : Nat} {n : Int} (hk : k < 9) (hq : q < s.size) (hb : bt s q < 128) : cnt s (9 - k) k n q = if bt s q = 0 ∧ 0 < k then none else some (n + bt s q % 128 * 2 ^ (7 * k), q + 1) := by
  rw [show 9 - k = (9 - (k + 1)) + 1 by omega]
  conv => lhs; unfold cnt
  rw [if_pos hq, if_pos hb]
theorem cnt_end {s : ByteArray} {k q : Nat} {n : Int} (hq : ¬ q < s.size) : cnt s (9 - k) k n q = none := by
  rcases Nat.lt_or_ge k 9 with h | h
  · rw [show 9 - k = (9 - (k + 1)) + 1 by omega]
    unfold cnt
    rw [if_neg hq]
  · rw [show 9 - k = 0 by omega]; rfl
theorem step_bound {k : Nat} {n b : Int} (h0 : 0 ≤ n) (h1 : n < 2 ^ (7 * k)) : 0 ≤ n + b % 128 * 2 ^ (7 * k) ∧ n + b % 128 * 2 ^ (7 * k) < 2 ^ (7 * (k + 1)) := by
  have hp : (2 : Int) ^ (7 * (k + 1)) = 128 * 2 ^ (7 * k) := by rw [show 7 * (k + 1) = 7 * k + 7 by omega, Int.pow_add]; omega
  have hq : (0 : Int) < 2 ^ (7 * k) := Int.pow_pos (by decide)
  have hm : b % 128 * 2 ^ (7 * k) ≤ 127 * 2 ^ (7 * k) := Int.mul_le_mul_of_nonneg_right (by omega) (by omega)
  have hm0 : 0 ≤ b % 128 * 2 ^ (7 * k) := Int.mul_nonneg (by omega) (by omega)
  rw [hp]
  omega
theorem Rel.step {w0 w W : World} {g q : Nat} {s : ByteArray} (h : Rel w0 w W g s q) (m : Nat) (r : Nat) : Rel w0 w ((W.drewN m).setCell ⟨g, 1, none⟩ (.int .i64 (r : Int))) g s r :=
  ⟨(h.is.drewN m).set r, below_set (pw_below_drewN h.below m) h.is.2, KeepBut.set_ (keep_drewN h.keep m) 1 _⟩
set_option maxRecDepth 100000 in
set_option maxHeartbeats 4000000 in
theorem number_any (s : ByteArray) (g p : Nat) (w0 w : World) (hI : IsR w0 w g s p) (hB : Below w0.heap.size w0 w) (hs : s.size ≤ 140737488351232) (hp : p ≤ s.size) :
    Calls Tryd.prog 78 #[.pointer (some ⟨g, 0, none⟩)] w fun e w' => ∃ q, q ≤ s.size ∧ Rel w0 w w' g s q ∧ NumE (num s p) e q := by
  have HR : Hid (Rel w0 w w g s p) := ⟨hI, hB, KeepBut.refl _ _ _⟩
  clear hI hB
  go_enter Tryd.func78, Tryd.ntmps78
  go_wp2
  go_loopw [4, 5] (fun nv sv w' => ∃ (k q : Nat) (n : Int), k ≤ 9 ∧ q ≤ s.size ∧ sv = .int .i64 ((7 * k : Nat) : Int) ∧ nv = .int .i64 n ∧ 0 ≤ n ∧ n < 2 ^ (7 * k) ∧ Hid (Rel w0 w w' g s q) ∧ Hid (cnt s (9 - k) k n q = num s p)) (fun _ sv _ => 63 - (intOf sv).toNat)
  case atStart => exact ⟨0, p, 0, by omega, hp, rfl, rfl, by decide, by decide, HR, Lib.hid rfl⟩
  case round =>
    clear HR
    obtain ⟨k, q, n, hk, hq, rfl, rfl, h0, h1, HR, HC⟩ := hrel
    have hz0 := (blk_cell HR.out.is.1 0)
    have hz1 := (blk_cell HR.out.is.1 1)
    have hf1 := (blk_frozen HR.out.is.1 1)
    simp at hz0 hz1
    by_cases hk9 : k < 9
    · by_cases hqs : q < s.size
      · have hqb : decide ((s.size : Int) ≤ (q : Int)) = false := decide_eq_false (by omega)
        have hbt : bt s (q : Int) = ((s[q]'hqs).toNat : Int) := (bt_at s (q : Int) (by simpa using hqs)).symm
        have hb8 : (s[q]'hqs).toNat < 256 := UInt8.toNat_lt _
        have HBT := Lib.hid hbt
        clear hbt
        have hq0 : (0 : Int) ≤ (q : Int) := by omega
        have hq1 : (q : Int) < (s.size : Int) := by omega
        have hq2 : IntKind.i64.wrap ((q : Int) + 1) = (q : Int) + 1 := IntWalk.i64_in _ (by omega)
        have HV := Lib.hid (or_val k n ((s[q]'hqs).toNat : Int) (by omega) h0 h1 (by omega) (by omega))
        have HS := Lib.hid (step_bound (b := bt s q) h0 h1)
        have HR2 := fun m => Lib.hid (HR.out.step m (q + 1))
        by_cases hlow : ((s[q]'hqs).toNat : Int) < 128
        · have hl := cnt_last (n := n) hk9 hqs (by rw [HBT.out]; exact hlow)
          rw [HC.out] at hl
          have HL := Lib.hid hl
          clear hl
          by_cases hz : (s[q]'hqs).toNat = 0
          · by_cases hk0 : 0 < k
            · have hk0' : (0 : Int) < 7 * (k : Int) := by omega
              have hN : num s p = none := by rw [HL.out, if_pos ⟨by rw [HBT.out, hz]; rfl, hk0⟩]
              have HN := Lib.hid hN
              clear hN
              go_wp2
              go_quiet (fail)
              go_wp2
              go_quiet (fail)
              go_wp2
              go_ret2
              exact ⟨q + 1, by omega, (HR2 _).out, by rw [HN.out]; rfl⟩
            · obtain rfl : k = 0 := by omega
              have hN := HL.out
              rw [if_neg (by omega), HBT.out, ← HV.out, show (2 : Int) ^ (7 * 0) = 1 from rfl, Int.mul_one] at hN
              have HN := Lib.hid hN
              rw [hz] at HN
              clear hN
              go_wp2
              go_quiet (fail)
              go_wp2
              go_quiet (fail)
              go_wp2
              go_ret2
              exact ⟨q + 1, by omega, (HR2 _).out, by rw [HN.out]; exact ⟨rfl, rfl⟩⟩
          · have hN := HL.out
            rw [if_neg (by rw [HBT.out]; omega), HBT.out, ← HV.out] at hN
            have HN := Lib.hid hN
            clear hN
            go_wp2
            go_quiet (fail)
            go_wp2
            go_quiet (fail)
            go_wp2
            go_ret2
            exact ⟨q + 1, by omega, (HR2 _).out, by rw [HN.out]; exact ⟨rfl, rfl⟩⟩
        · have hN := cnt_next (n := n) hk9 hqs (by rw [HBT.out]; exact hlow)
          rw [HC.out] at hN
          have hS := HS.out
          rw [HBT.out, ← HV.out] at hN hS
          have HN := Lib.hid hN
          have HS2 := Lib.hid hS
          clear hN hS
          go_wp2
          go_quiet (fail)
          go_wp2
          go_quiet (fail)
          go_wp2
          go_roundw
          case rel => exact ⟨k + 1, q + 1, _, by omega, by omega, by rw [show ((7 * (k + 1) : Nat) : Int) = 7 * (k : Int) + 7 by omega], rfl, HS2.out.1, HS2.out.2, HR2 _, Lib.hid HN.out.symm⟩
          case measure => simp only [intOf]; omega
      · have hN := cnt_end (k := k) (n := n) hqs
        rw [HC.out] at hN
        have HN := Lib.hid hN
        clear hN
        have hqb : (s.size : Int) ≤ (q : Int) := by omega
        go_wp2
        go_quiet (fail)
        go_wp2
        go_ret2
        exact ⟨q, by omega, ⟨HR.out.is.drewN _, pw_below_drewN HR.out.below _, keep_drewN HR.out.keep _⟩, by rw [HN.out]; rfl⟩
    · obtain rfl : k = 9 := by omega
      have HN : Hid (num s p = none) := Lib.hid HC.out.symm
      go_wp2
      go_ret2
      exact ⟨q, by omega, HR.out, by rw [HN.out]; rfl⟩
end Dec
end Go.Proofs.YtcijanmckhlpiaaDoor
