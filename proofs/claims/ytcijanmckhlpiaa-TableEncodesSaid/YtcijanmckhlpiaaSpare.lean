import Derived.Test.YtcijanmckhlpiaaWMore
namespace Go.Proofs.YtcijanmckhlpiaaW.PrintWords.Kd
open Go.RowKit
/-- A slice behind whose end more elements lie, in its spare room: (elements, what lies behind them). -/
def spare {α : Type} (e : Nat) (d : Kd α) : Kd (List α × List α) where
  sz := 1
  E := e :: d.E
  K := fun w x cs => ∃ A c, cs = [.slice A x.1.length c] ∧ (x.1 ++ x.2).length ≤ c ∧ d.C w A (x.1 ++ x.2).length (x.1 ++ x.2)
  M := fun w base ok x cs => ∃ A c, cs = [.slice A x.1.length c] ∧ d.R e w base ok (.slice A (x.1 ++ x.2).length c) (x.1 ++ x.2)
  K_len := by
    rintro w x cs ⟨A, c, rfl, _⟩
    rfl
  K_one := by
    rintro w x cs ⟨A, c, rfl, _⟩ u hu
    rw [List.mem_singleton.1 hu]
    rfl
  K_below := by
    rintro w w1 x cs hb ⟨A, c, rfl, hl, hr⟩
    exact ⟨A, c, rfl, hl, C_below hr hb⟩
  K_of_M := by
    rintro w base ok x cs ⟨A, c, rfl, h⟩
    obtain ⟨A', c', he, hl, hr⟩ := R_reads h
    injection he with h1 h2 h3
    subst h1
    subst h3
    exact ⟨A, c, rfl, hl, hr⟩
  M_mono := by
    rintro w base ok ok' x cs hok ⟨A, c, rfl, h⟩
    exact ⟨A, c, rfl, R_mono h hok⟩
  M_bound := by
    rintro w base ok x cs ⟨A, c, rfl, h⟩
    exact ⟨A, c, rfl, R_bound h⟩
  M_move := by
    rintro w w1 base ok x cs hm ⟨A, c, rfl, h⟩
    exact ⟨A, c, rfl, R_move h hm⟩
  M_lower := by
    rintro w base base' ok x cs hb ⟨A, c, rfl, h⟩
    exact ⟨A, c, rfl, R_lower h hb⟩
end Go.Proofs.YtcijanmckhlpiaaW.PrintWords.Kd
