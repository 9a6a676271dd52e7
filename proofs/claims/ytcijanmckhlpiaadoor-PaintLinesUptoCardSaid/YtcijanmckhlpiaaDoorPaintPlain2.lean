import Derived.Test.YtcijanmckhlpiaaDoorPaintPlain
namespace Go.Proofs.YtcijanmckhlpiaaDoor
open Go.RowKit Go.Proofs.YtcijanmckhlpiaaDoorW.PrintWords Go.Proofs.YtcijanmckhlpiaaDoorW.PrintLast Go.Proofs.YtcijanmckhlpiaaDoorW.PrintMore Go.Proofs.YtcijanmckhlpiaaDoor.PPaintLines
set_option linter.unusedVariables false
set_option linter.unusedSimpArgs false
namespace Paint

theorem w64_pred {n : Nat} (h : 0 < n) (h2 : n ≤ 9223372036854775807) : wrap64 ((n : Int) - 1) = ((n - 1 : Nat) : Int) := by unfold wrap64; omega
theorem beyond_j2 {t : List S100} (hb : t.length ≤ 1048576) {i : Nat} (hi : i < t.length) (ih : ∀ st : List Int, st.length ≤ i + 1 → ∃ r, Ev (fun k => trellisref15_Beyond.l0 k t st ((i + 1 : Nat) : Int)) r) (st : List Int) (hst : st.length ≤ i) : ∃ r, Ev (fun k => trellisref15_Beyond.j2 k t st (i : Int)) r := by
  have fin : ∀ st' : List Int, st'.length ≤ i + 1 → ∃ r, Ev (fun k => if (st'.length : Int) > 65536 then some true else trellisref15_Beyond.l0 k t st' ((i + 1 : Nat) : Int)) r := by
    intro st' hs
    by_cases h : (st'.length : Int) > 65536
    · exact ⟨true, Ev.congr (fun k => if_pos h) (Ev.now _)⟩
    · obtain ⟨r, hr⟩ := ih st' hs
      exact ⟨r, Ev.congr (fun k => if_neg h) hr⟩
  by_cases h0 : (st.length : Int) > 0
  · obtain ⟨r, hr⟩ := fin (st.set (st.length - 1) (wrap64 ((rd st ((st.length - 1 : Nat) : Int)) - 1)) ++ [(t[i]).f5]) (by rw [List.length_append, List.length_set, List.length_singleton]; omega)
    refine ⟨r, Ev.step (fun k => ?_) hr⟩
    simp only [trellisref15_Beyond.j2]
    rw [if_pos h0, w64_pred (by omega) (by omega), if_pos (by omega), if_pos (by omega), Int.toNat_natCast, Option.bind_some, if_pos (by omega), if_pos (by omega), List.length_set, if_pos (by omega), Option.bind_some, rdT_get t i hi, w64_nat (by omega)]
  · obtain ⟨r, hr⟩ := fin (st ++ [(t[i]).f5]) (by rw [List.length_append, List.length_singleton]; omega)
    refine ⟨r, Ev.step (fun k => ?_) hr⟩
    simp only [trellisref15_Beyond.j2]
    rw [if_neg h0, if_pos (by omega), if_pos (by omega), if_pos (by omega), Option.bind_some, rdT_get t i hi, w64_nat (by omega)]
theorem beyond_l1 {t : List S100} (hb : t.length ≤ 1048576) {i : Nat} (hi : i < t.length) (ih : ∀ st : List Int, st.length ≤ i + 1 → ∃ r, Ev (fun k => trellisref15_Beyond.l0 k t st ((i + 1 : Nat) : Int)) r) : ∀ n : Nat, ∀ st : List Int, st.length = n → n ≤ i → ∃ r, Ev (fun k => trellisref15_Beyond.l1 k t st (i : Int)) r := by
  intro n
  induction n with
  | zero =>
    intro st hn hni
    obtain ⟨r, hr⟩ := beyond_j2 hb hi ih st (by omega)
    refine ⟨r, Ev.step (fun k => ?_) hr⟩
    simp only [trellisref15_Beyond.l1]
    rw [if_neg (by omega)]
  | succ n ihn =>
    intro st hn hni
    by_cases h : rd st ((st.length - 1 : Nat) : Int) ≤ 0
    · obtain ⟨r, hr⟩ := ihn (st.take (st.length - 1)) (by rw [List.length_take]; omega) (by omega)
      refine ⟨r, Ev.step (fun k => ?_) hr⟩
      simp only [trellisref15_Beyond.l1]
      rw [if_pos (by omega), w64_pred (by omega) (by omega), if_pos (by omega), if_pos (by omega), if_pos h, if_pos (by omega), Int.toNat_natCast]
    · obtain ⟨r, hr⟩ := beyond_j2 hb hi ih st (by omega)
      refine ⟨r, Ev.step (fun k => ?_) hr⟩
      simp only [trellisref15_Beyond.l1]
      rw [if_pos (by omega), w64_pred (by omega) (by omega), if_pos (by omega), if_pos (by omega), if_neg h]
theorem beyond_l0 {t : List S100} (hb : t.length ≤ 1048576) : ∀ d i : Nat, t.length - i = d → i ≤ t.length → ∀ st : List Int, st.length ≤ i → ∃ r, Ev (fun k => trellisref15_Beyond.l0 k t st (i : Int)) r := by
  intro d
  induction d with
  | zero =>
    intro i hd hi st hs
    refine ⟨false, Ev.step (f := fun _ => some false) (fun k => ?_) (Ev.now _)⟩
    simp only [trellisref15_Beyond.l0]
    rw [if_neg (by omega)]
  | succ d ih =>
    intro i hd hi st hs
    obtain ⟨r, hr⟩ := beyond_l1 hb (i := i) (by omega) (fun st' h => ih (i + 1) (by omega) (by omega) st' h) st.length st rfl hs
    refine ⟨r, Ev.step (fun k => ?_) hr⟩
    simp only [trellisref15_Beyond.l0]
    rw [if_pos (by omega)]
theorem Beyond_ev {t : List S100} (hb : t.length ≤ 1048576) : ∃ r, Ev (fun k => trellisref15_Beyond.f k t) r := by
  obtain ⟨r, hr⟩ := beyond_l0 hb t.length 0 (by omega) (Nat.zero_le _) [] (Nat.le_refl _)
  exact ⟨r, hr⟩
/-! ### classes -/
end Paint
end Go.Proofs.YtcijanmckhlpiaaDoor
