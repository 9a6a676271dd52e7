import Derived.Test.YtcijanmckhlpiaaDoorDTabPlain
import Derived.Test.YtcijanmckhlpiaaDoorPTableDecodesx3
namespace Go.Proofs.YtcijanmckhlpiaaDoor
open Go.RowKit Go.Proofs.YtcijanmckhlpiaaDoorW.PrintWords Go.Proofs.YtcijanmckhlpiaaDoorW.PrintLast Go.Proofs.YtcijanmckhlpiaaDoorW.PrintMore Go.Proofs.YtcijanmckhlpiaaDoor.PTableDecodes
set_option linter.unusedVariables false
set_option linter.unusedSimpArgs false
namespace Dec
theorem val_eq (k : Nat) (n b : Int) (hk : k ≤ 8) (h0 : 0 ≤ n) (h1 : n < 2 ^ (7 * k)) (b0 : 0 ≤ b) (b1 : b < 256) :
    IntKind.u64.wrap (n + shl .u64 (IntKind.u64.wrap (Int.tmod b 128)) (IntKind.u64.wrap (wrap64 (7 * (k : Int))))) = n + b % 128 * 2 ^ (7 * k) := by
  have hq : (0 : Int) < 2 ^ (7 * k) := Int.pow_pos (by decide)
  have h9 : (2 : Nat) ^ (7 * k) ≤ 2 ^ 56 := Nat.pow_le_pow_right (by decide) (by omega)
  have h8 : (2 : Int) ^ (7 * k) ≤ 2 ^ 56 := by exact_mod_cast h9
  have hm : b % 128 * 2 ^ (7 * k) ≤ 127 * 2 ^ (7 * k) := Int.mul_le_mul_of_nonneg_right (by omega) (by omega)
  have hm0 : 0 ≤ b % 128 * 2 ^ (7 * k) := Int.mul_nonneg (by omega) (by omega)
  rw [IntWalk.wrap64_in _ (by omega), IntWalk.u64_in (7 * (k : Int)) (by omega), Int.tmod_eq_emod_of_nonneg b0, IntWalk.u64_in (b % 128) (by omega)]
  unfold shl
  rw [show min (7 * (k : Int)).toNat IntKind.u64.bits = 7 * k by simp [IntKind.bits]; omega, IntWalk.u64_in (b % 128 * 2 ^ (7 * k)) (by omega), IntWalk.u64_in _ (by omega)]
/-- What the document's reader comes to. -/
def numR (s : ByteArray) (lo hi : Int) (o : Option (Int × Nat)) (beg bad : Int) (q' : Nat) : Int × ByteArray × Int × Int := match o.bind fun r => if lo ≤ r.1 ∧ r.1 ≤ hi then some r else none with
  | some r => (r.1, s, (r.2 : Int), bad)
  | none => (0, s, (q' : Int), beg)
theorem num_l0 (s : ByteArray) (lo hi beg bad : Int) (hs : s.size ≤ 140737488351232) (hl : 0 ≤ lo ∧ lo < 9223372036854775808) (hh : 0 ≤ hi ∧ hi < 9223372036854775808) : ∀ (f k : Nat) (n : Int) (p : Nat), f + k = 9 → 0 ≤ n → n < 2 ^ (7 * k) → p ≤ s.size →
    ∃ q', q' ≤ s.size ∧ trellisref13_Reader_number.l0 (2 * f + 2) lo hi beg n k s p bad = some (numR s lo hi (cnt s f k n p) beg bad q') := by
  intro f
  induction f with
  | zero =>
    intro k n p hk h0 h1 hp
    obtain rfl : k = 9 := by omega
    refine ⟨p, hp, ?_⟩
    simp only [trellisref13_Reader_number.l0]
    by_cases c : (p : Int) ≥ (s.size : Int)
    · rw [if_pos c]; simp [trellisref13_Reader_number.j1, cnt, numR]
    · rw [if_neg c]; simp [trellisref13_Reader_number.j1, cnt, numR]
  | succ f ih =>
    intro k n p hk h0 h1 hp
    rw [show 2 * (f + 1) + 2 = (2 * f + 2) + 1 + 1 by omega]
    generalize hK : 2 * f + 2 = K at *
    simp only [trellisref13_Reader_number.l0]
    by_cases c : (p : Int) ≥ (s.size : Int)
    · rw [if_pos c]
      refine ⟨p, hp, ?_⟩
      have hc : cnt s (f + 1) k n p = none := by unfold cnt; rw [if_neg (by omega)]
      rw [hc]
      simp [trellisref13_Reader_number.j1, numR]
    · rw [if_neg c]
      have hps : p < s.size := by omega
      have hb := bt_range s p
      have HV := Lib.hid (val_eq k n (bt s p) (by omega) h0 h1 hb.1 (by omega))
      have hsb := step_bound (b := bt s p) h0 h1
      have h9 : (2 : Nat) ^ (7 * (k + 1)) ≤ 2 ^ 63 := Nat.pow_le_pow_right (by decide) (by omega)
      have h8 : (2 : Int) ^ (7 * (k + 1)) ≤ 2 ^ 63 := by exact_mod_cast h9
      have hk8 : decide ((k : Int) > 8) = false := decide_eq_false (by omega)
      have hp0 : (0 : Int) ≤ (p : Int) := by omega
      have hp1 : (p : Int) < (s.size : Int) := by omega
      have hhi : IntKind.u64.wrap hi = hi := IntWalk.u64_in hi (by omega)
      have HHI := Lib.hid hhi
      clear hhi
      have hlo : IntKind.u64.wrap lo = lo := IntWalk.u64_in lo (by omega)
      have HLO := Lib.hid hlo
      clear hlo
      have hw1 : wrap64 ((p : Int) + 1) = ((p + 1 : Nat) : Int) := (IntWalk.wrap64_in ((p : Int) + 1) (by omega)).trans rfl
      have HW1 := Lib.hid hw1
      clear hw1
      have hw2 : wrap64 ((k : Int) + 1) = ((k + 1 : Nat) : Int) := (IntWalk.wrap64_in ((k : Int) + 1) (by omega)).trans rfl
      have HW2 := Lib.hid hw2
      clear hw2
      have hu0 : IntKind.u64.wrap (wrap64 (7 * (k : Int))) = 7 * (k : Int) := (congrArg IntKind.u64.wrap (IntWalk.wrap64_in (7 * (k : Int)) (by omega))).trans (IntWalk.u64_in _ (by omega))
      have hu : 0 ≤ IntKind.u64.wrap (wrap64 (7 * (k : Int))) := by rw [hu0]; exact Int.mul_nonneg (by decide) (Int.natCast_nonneg _)
      have HU := Lib.hid hu
      clear hu hu0
      rw [hk8]
      simp only [trellisref13_Reader_number.j1]
      rw [if_neg (by simp), if_pos hp0, if_pos hp1, if_pos HU.out, HV.out, HW1.out, HW2.out, HHI.out, HLO.out]
      have hlast : bt s p < 128 → cnt s (f + 1) k n p = if bt s p = 0 ∧ 0 < k then none else some (n + bt s p % 128 * 2 ^ (7 * k), p + 1) := by
        intro hb1
        conv => lhs; unfold cnt
        rw [if_pos hps, if_pos hb1]
      by_cases c1 : bt s p < 128
      · rw [if_pos c1]
        have htail : ∀ (hnz : ¬ (bt s p = 0 ∧ 0 < k)), (if n + bt s ↑p % 128 * 2 ^ (7 * k) > hi then some (0, s, ((p + 1 : Nat) : Int), beg) else if n + bt s ↑p % 128 * 2 ^ (7 * k) < lo then some (0, s, ((p + 1 : Nat) : Int), beg) else some (wrap64 (n + bt s ↑p % 128 * 2 ^ (7 * k)), s, ((p + 1 : Nat) : Int), bad)) = some (numR s lo hi (some (n + bt s p % 128 * 2 ^ (7 * k), p + 1)) beg bad (p + 1)) := by
          intro hnz
          unfold numR
          simp only [Option.bind_some]
          by_cases d1 : n + bt s ↑p % 128 * 2 ^ (7 * k) > hi
          · rw [if_pos d1, if_neg (by omega)]
          · rw [if_neg d1]
            by_cases d2 : n + bt s ↑p % 128 * 2 ^ (7 * k) < lo
            · rw [if_pos d2, if_neg (by omega)]
            · rw [if_neg d2, if_pos (by omega), IntWalk.wrap64_in _ (by omega)]
        by_cases c2 : bt s p = 0
        · rw [if_pos c2]
          by_cases c3 : 0 < k
          · rw [if_pos (show (k : Int) > 0 by omega), (hlast c1).trans (if_pos ⟨c2, c3⟩)]
            exact ⟨p + 1, by omega, rfl⟩
          · rw [if_neg (show ¬ (k : Int) > 0 by omega), (hlast c1).trans (if_neg (fun h => c3 h.2))]
            exact ⟨p + 1, by omega, htail (fun h => c3 h.2)⟩
        · rw [if_neg c2, (hlast c1).trans (if_neg (fun h => c2 h.1))]
          exact ⟨p + 1, by omega, htail (fun h => c2 h.1)⟩
      · rw [if_neg c1]
        obtain ⟨q', hq', e⟩ := ih (k + 1) _ (p + 1) (by omega) hsb.1 hsb.2 (by omega)
        refine ⟨q', hq', ?_⟩
        have hc : cnt s (f + 1) k n p = cnt s f (k + 1) (n + bt s p % 128 * 2 ^ (7 * k)) (p + 1) := by
          conv => lhs; unfold cnt
          rw [if_pos hps, if_neg c1]
        rw [hc]
        exact e
/-- number, of a reader that has met nothing bad. -/
theorem num_f (s : ByteArray) (lo hi : Int) (p : Nat) (hs : s.size ≤ 140737488351232) (hl : 0 ≤ lo ∧ lo < 9223372036854775808) (hh : 0 ≤ hi ∧ hi < 9223372036854775808) (hp : p ≤ s.size) :
    ∃ q', q' ≤ s.size ∧ trellisref13_Reader_number.f 20 s p (-1) lo hi = some (numR s lo hi (num s p) p (-1) q') := by
  obtain ⟨q', hq', e⟩ := num_l0 s lo hi p (-1) hs hl hh 9 0 0 p rfl (by decide) (by decide) hp
  rw [show 2 * 9 + 2 = 20 from rfl, show ((0 : Nat) : Int) = 0 from rfl, show cnt s 9 0 0 p = num s p from rfl] at e
  refine ⟨q', hq', ?_⟩
  unfold trellisref13_Reader_number.f
  rw [if_neg (by decide), e]
theorem num_bad (k : Nat) (s : ByteArray) (lo hi p bad : Int) (hb : 0 ≤ bad) : trellisref13_Reader_number.f k s p bad lo hi = some (0, s, p, bad) := by
  unfold trellisref13_Reader_number.f
  rw [if_pos hb]
theorem rfits_f (k : Nat) (a : S93) (st : Int) : trellisref13_fits.f (k + 1) a.f0 a.f1 st = some (fitS a st) := by
  obtain ⟨x, y⟩ := a
  simp only [trellisref13_fits.f, trellisref13_fits.j0]
  unfold fitS
  simp only
  by_cases h0 : x = 0
  · subst h0; simp
  · by_cases h3 : x = 3
    · subst h3; simp
    · by_cases h1 : x = 1
      · subst h1
        by_cases hy : 0 ≤ y <;> simp [hy]
      · by_cases h2 : x = 2
        · subst h2
          by_cases hy : 0 ≤ y <;> simp [hy]
        · simp [h0, h1, h2, h3]
/-- action's answer. -/
def actR2 (s : ByteArray) (st : Int) (p : Nat) (r : Int × Int × ByteArray × Int × Int) : Prop := match actS s st p with
  | some x => r = (x.1.f0, x.1.f1, s, (x.2 : Int), -1)
  | none => ∃ (a b : Int) (q' : Nat), q' ≤ s.size ∧ r = (a, b, s, (q' : Int), (p : Int))
theorem act_f (s : ByteArray) (st : Int) (p : Nat) (hs : s.size ≤ 140737488351232) (hp : p ≤ s.size) : ∃ r, trellisref13_Reader_action.f 20 s p (-1) st = some r ∧ actR2 s st p r := by
  obtain ⟨q', hq', e⟩ := num_f s 0 4608 p hs (by decide) (by decide) hp
  unfold trellisref13_Reader_action.f
  rw [e]
  simp only [Option.bind_some]
  rcases hw : within s 0 4608 p with _ | ⟨n, q⟩
  · have hN : numR s 0 4608 (num s p) p (-1) q' = (0, s, (q' : Int), (p : Int)) := by
      unfold numR
      unfold within at hw
      rw [hw]
    rw [hN]
    simp only
    have hf : ∀ k, trellisref13_fits.f (k + 1) 0 0 st = some true := fun k => (rfits_f k ⟨0, 0⟩ st).trans (by simp [fitS])
    rw [if_neg (by decide), if_neg (by decide)]
    simp only [trellisref13_Reader_action.j0]
    rw [if_neg (by decide), if_neg (by decide), hf 18]
    simp only [Option.bind_some]
    rw [if_neg (by omega)]
    refine ⟨_, rfl, ?_⟩
    unfold actR2 actS
    rw [hw]
    exact ⟨0, 0, q', hq', rfl⟩
  · have hb := within_bound hw
    simp only at hb
    have hN : numR s 0 4608 (num s p) p (-1) q' = (n, s, (q : Int), -1) := by
      unfold numR
      unfold within at hw
      rw [hw]
    rw [hN]
    simp only
    have fin : ∀ (a : S93), actOf n = a → ∃ r, (if fitS a st = true then some (a.f0, a.f1, s, (q : Int), (-1 : Int)) else some (a.f0, a.f1, s, (q : Int), (p : Int))) = some r ∧ actR2 s st p r := by
      intro a ha
      unfold actR2 actS
      rw [hw]
      simp only [Option.bind_some, ha]
      by_cases hf : fitS a st = true
      · rw [if_pos hf, if_pos hf]; exact ⟨_, rfl, rfl⟩
      · rw [if_neg hf, if_neg hf]; exact ⟨_, rfl, _, _, q, by omega, rfl⟩
    have hneg : ((-1 : Int) < 0) := by decide
    by_cases c1 : n = 1
    · subst c1
      rw [if_pos rfl, show trellisref13_fits.f 20 3 0 st = some (fitS ⟨3, 0⟩ st) from rfits_f 19 ⟨3, 0⟩ st]
      simp only [Option.bind_some]
      rw [if_pos hneg]
      exact fin ⟨3, 0⟩ rfl
    · rw [if_neg c1]
      by_cases c2 : n > 1
      · rw [if_pos c2]
        simp only [trellisref13_Reader_action.j0]
        rw [Int.tmod_eq_emod_of_nonneg (by omega)]
        by_cases c3 : n % 2 = 0
        · rw [if_pos (by rw [c3]; rfl)]
          have e1 : wrap64 (Int.tdiv (wrap64 (n - 2)) 2) = (n - 2) / 2 := by rw [IntWalk.wrap64_in (n - 2) (by omega), Int.tdiv_eq_ediv_of_nonneg (by omega), IntWalk.wrap64_in _ (by omega)]
          rw [e1, show trellisref13_fits.f 19 1 ((n - 2) / 2) st = some (fitS ⟨1, (n - 2) / 2⟩ st) from rfits_f 18 ⟨1, (n - 2) / 2⟩ st]
          simp only [Option.bind_some]
          rw [if_pos hneg]
          exact fin ⟨1, (n - 2) / 2⟩ (by unfold actOf; rw [if_neg (by omega), if_neg c1, if_pos c3])
        · rw [if_neg (by simpa using c3), if_pos c2]
          have e1 : wrap64 (Int.tdiv (wrap64 (n - 3)) 2) = (n - 3) / 2 := by rw [IntWalk.wrap64_in (n - 3) (by omega), Int.tdiv_eq_ediv_of_nonneg (by omega), IntWalk.wrap64_in _ (by omega)]
          rw [e1, show trellisref13_fits.f 19 2 ((n - 3) / 2) st = some (fitS ⟨2, (n - 3) / 2⟩ st) from rfits_f 18 ⟨2, (n - 3) / 2⟩ st]
          simp only [Option.bind_some]
          rw [if_pos hneg]
          exact fin ⟨2, (n - 3) / 2⟩ (by unfold actOf; rw [if_neg (by omega), if_neg c1, if_neg c3])
      · obtain rfl : n = 0 := by omega
        rw [if_neg c2]
        simp only [trellisref13_Reader_action.j0]
        rw [if_neg (by decide), if_neg c2, show trellisref13_fits.f 19 0 0 st = some (fitS ⟨0, 0⟩ st) from rfits_f 18 ⟨0, 0⟩ st]
        simp only [Option.bind_some]
        rw [if_pos hneg]
        exact fin ⟨0, 0⟩ rfl
end Dec
end Go.Proofs.YtcijanmckhlpiaaDoor
