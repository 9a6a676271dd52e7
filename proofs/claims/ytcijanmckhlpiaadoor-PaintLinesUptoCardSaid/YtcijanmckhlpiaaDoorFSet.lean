import Derived.Test.YtcijanmckhlpiaaDoorWMore
namespace Go.Proofs.YtcijanmckhlpiaaDoorW.PrintWords
open Go.RowKit
set_option linter.unusedVariables false
set_option linter.unusedSimpArgs false
theorem own_cset {W : World} {base g n' n cap size : Nat} {e : TypeId} {inner : List Value} (h : W.ownsRow base e size (.slice (some ⟨g, 0, none⟩) n' cap) n inner) (i : Nat) (u : Value) :
    (W.setCell ⟨g, i, none⟩ u).ownsRow base e size (.slice (some ⟨g, 0, none⟩) n' cap) n (inner.set i u) := by
  rcases h.2 with ⟨h0, _⟩ | ⟨g', cap', cur, hv, hbase, hb, h1, h2, h3, h4⟩
  · cases h0
  cases hv
  exact ⟨by rw [List.length_set]; exact h.1, .inr ⟨g, cap, _, rfl, hbase, blk_set hb i u, h1, h2, by simp [h3], by rw [Array.toList_setIfInBounds, List.take_set, h4]⟩⟩
namespace Kd
/-- A field of an element is stored anew. -/
theorem R_fset {α : Type} {d : Kd α} {e base g n cap : Nat} {ok : Nat → Prop} {W : World} {xs : List α} (h : d.R e W base ok (.slice (some ⟨g, 0, none⟩) n cap) xs) (j : Nat) (x x' : α) (hx : xs[j]? = some x) (f : Nat) (hf : f < d.sz) (u : Value)
    (hM : ∀ (W : World) (ok : Nat → Prop) cs, d.M W base ok x cs → d.M W base ok x' (cs.set f u)) : d.R e (W.setCell ⟨g, j * d.sz + f, none⟩ u) base ok (.slice (some ⟨g, 0, none⟩) n cap) (xs.set j x') := by
  obtain ⟨h0, inner, ho, hr⟩ := h
  have hown : (Value.slice (some ⟨g, 0, none⟩) n cap).ownBlock = some g := rfl
  have hfar : ∀ p c, d.M W base (fun k => ok k ∧ some k ≠ (Value.slice (some ⟨g, 0, none⟩) n cap).ownBlock) p c → d.M (W.setCell ⟨g, j * d.sz + f, none⟩ u) base (fun k => ok k ∧ some k ≠ (Value.slice (some ⟨g, 0, none⟩) n cap).ownBlock) p c :=
    fun p c hm => d.M_far hm (fun k hk e => hk.2 (by rw [hown, e])) u
  refine ⟨h0, inner.set (j * d.sz + f) u, by rw [List.length_set]; exact own_cset ho _ u, by rw [List.length_set, List.length_set]; exact hr.1, fun i p hi => ?_⟩
  have hjl := (List.getElem?_eq_some_iff.1 hx).1
  by_cases hij : i = j
  · subst hij
    rw [List.getElem?_set_self (by omega)] at hi
    cases hi
    have h1 := hM _ _ _ (hfar _ _ (hr.2 i x hx))
    rw [List.drop_set, if_neg (by omega), List.take_set, show i * d.sz + f - i * d.sz = f by omega]
    exact h1
  · rw [List.getElem?_set_ne (fun e => hij e.symm)] at hi
    have h1 := hfar _ _ (hr.2 i p hi)
    rcases Nat.lt_or_gt_of_ne hij with c | c
    · have h2 : (i + 1) * d.sz ≤ j * d.sz := Nat.mul_le_mul_right _ c
      rw [Nat.succ_mul] at h2
      rw [List.drop_set, if_neg (by omega), List.take_set, List.set_eq_of_length_le (by rw [List.length_take]; omega)]
      exact h1
    · have h2 : (j + 1) * d.sz ≤ i * d.sz := Nat.mul_le_mul_right _ c
      rw [Nat.succ_mul] at h2
      rw [List.drop_set, if_pos (by omega)]
      exact h1
end Kd
end Go.Proofs.YtcijanmckhlpiaaDoorW.PrintWords
