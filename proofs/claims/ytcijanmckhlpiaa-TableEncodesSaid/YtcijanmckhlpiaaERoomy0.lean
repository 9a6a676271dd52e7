import Derived.Test.YtcijanmckhlpiaaETurned
import Derived.Test.YtcijanmckhlpiaaSpare
import Derived.Deep.RegionHeld3
namespace Go.Proofs.Ytcijanmckhlpiaa
open Go.RowKit Go.Proofs.YtcijanmckhlpiaaW.PrintWords Go.Proofs.YtcijanmckhlpiaaW.PrintLast Go.Proofs.YtcijanmckhlpiaaW.PrintMore Go.Proofs.Ytcijanmckhlpiaa.PTableEncodes
set_option linter.unusedVariables false
set_option linter.unusedSimpArgs false

abbrev kI : Kd Int := Kd.int .i64
def tru : Nat → Prop := fun _ => True
def markA : List S80 := [⟨0, -77⟩]
def markG : List Int := [-77]
def xA (l : List (List S80)) : List (List S80 × List S80) := l.map fun r => (r, markA)
def xG (l : List (List Int)) : List (List Int × List Int) := l.map fun r => (r, markG)

structure RI (w : World) (t0 t1 uA uG : Value) (yA : List (List S80 × List S80)) (yG : List (List Int × List Int)) (w' : World) : Prop where
  below : Below w.heap.size w w'
  b1 : w'.heap[w.heap.size]? = some (Obj.cells #[t0, t1] 25 (0, 0))
  b2 : w'.heap[w.heap.size + 1]? = some (Obj.cells #[Value.slice none 0 0, Value.slice none 0 0] 25 (0, 0))
  b3 : w'.heap[w.heap.size + 1 + 1]? = some (Obj.cells #[uA, uG] 25 (0, 0))
  rA : (Kd.spare 80 k80).R 77 w' w.heap.size tru uA yA
  rG : (Kd.spare 3 kI).R 33 w' w.heap.size tru uG yG

/-- A row made anew and appended to: what was there is as it was. -/
theorem kept2 {W w1 w2 : World} {v1 : Value} {r : Option Nat} (hr : r = none) (hg1 : W.grownBy w1 r) (hat1 : v1.ownBlock = r ∨ ∃ b, v1.ownBlock = some b ∧ W.heap.size ≤ b) (hg2 : w1.grownBy w2 v1.ownBlock) : Below W.heap.size W w2 := by
  subst hr
  refine (Below.refl _ W).trans (Below.trans ⟨hg1.os, hg1.tape, hg1.output, hg1.size, fun i hi => hg1.block i hi (by simp)⟩ ⟨hg2.os, hg2.tape, hg2.output, hg2.size, fun i hi => hg2.block i (by have := hg1.size; omega) (fun e => ?_)⟩)
  rcases hat1 with h | ⟨b, h, hb⟩
  · rw [h] at e; cases e
  · rw [h] at e; injection e with e; omega
theorem RI.later {w : World} {t0 t1 uA uG : Value} {yA : List (List S80 × List S80)} {yG : List (List Int × List Int)} {W W' : World} (h : RI w t0 t1 uA uG yA yG W) (hb : Below W.heap.size W W') : RI w t0 t1 uA uG yA yG W' :=
  ⟨below_step h.below hb, blk_below h.b1 hb, blk_below h.b2 hb, blk_below h.b3 hb, Kd.R_below h.rA hb, Kd.R_below h.rG hb⟩
theorem RI.drew {w : World} {t0 t1 uA uG : Value} {yA : List (List S80 × List S80)} {yG : List (List Int × List Int)} {W : World} (h : RI w t0 t1 uA uG yA yG W) : RI w t0 t1 uA uG yA yG W.drew := h.later (below_drew (Below.refl _ _))
/-- Behind an append to a row of rows: what the region goes on to read. -/
theorem RI.grownrA {w : World} {t0 t1 uA uG : Value} {yA : List (List S80 × List S80)} {yG : List (List Int × List Int)} {W w3 : World} (h : RI w t0 t1 uA uG yA yG W) (hg : W.grownBy w3 uA.ownBlock) :
    w3.heap[w.heap.size]? = some (Obj.cells #[t0, t1] 25 (0, 0)) ∧ w3.heap[w.heap.size + 1]? = some (Obj.cells #[Value.slice none 0 0, Value.slice none 0 0] 25 (0, 0)) ∧ w3.heap[w.heap.size + 1 + 1]? = some (Obj.cells #[uA, uG] 25 (0, 0)) :=
  ⟨blk_grown h.b1 hg (Kd.R_ne h.rA h.b1 (by decide)), blk_grown h.b2 hg (Kd.R_ne h.rA h.b2 (by decide)), blk_grown h.b3 hg (Kd.R_ne h.rA h.b3 (by decide))⟩
theorem RI.grownrG {w : World} {t0 t1 uA uG : Value} {yA : List (List S80 × List S80)} {yG : List (List Int × List Int)} {W w3 : World} (h : RI w t0 t1 uA uG yA yG W) (hg : W.grownBy w3 uG.ownBlock) :
    w3.heap[w.heap.size]? = some (Obj.cells #[t0, t1] 25 (0, 0)) ∧ w3.heap[w.heap.size + 1]? = some (Obj.cells #[Value.slice none 0 0, Value.slice none 0 0] 25 (0, 0)) ∧ w3.heap[w.heap.size + 1 + 1]? = some (Obj.cells #[uA, uG] 25 (0, 0)) :=
  ⟨blk_grown h.b1 hg (Kd.R_ne h.rG h.b1 (by decide)), blk_grown h.b2 hg (Kd.R_ne h.rG h.b2 (by decide)), blk_grown h.b3 hg (Kd.R_ne h.rG h.b3 (by decide))⟩
theorem RI.setA {w : World} {t0 t1 uA uG u1 : Value} {yA yA' : List (List S80 × List S80)} {yG : List (List Int × List Int)} {W w3 : World} (h : RI w t0 t1 uA uG yA yG W) (hb : Below w.heap.size w w3) (hg : W.grownBy w3 uA.ownBlock) (ho : (Kd.spare 80 k80).R 77 w3 w.heap.size tru u1 yA') :
    RI w t0 t1 u1 uG yA' yG (w3.setCell ⟨w.heap.size + 1 + 1, 0, none⟩ u1) := by
  obtain ⟨e1, e2, e3⟩ := h.grownrA hg
  refine ⟨below_set hb (by omega), blk_far e1 (p := ⟨w.heap.size + 1 + 1, 0, none⟩) (by show _ ≠ _; simp; omega) _, blk_far e2 (p := ⟨w.heap.size + 1 + 1, 0, none⟩) (by show _ ≠ _; simp) _, blk_set e3 0 u1, Kd.R_set ho e3 (by decide) 0 u1, ?_⟩
  exact Kd.R_set (Kd.R_over' h.rG (Kd.R_typed h.rA) (by decide) hg) e3 (by decide) 0 u1
theorem RI.setG {w : World} {t0 t1 uA uG u1 : Value} {yA : List (List S80 × List S80)} {yG yG' : List (List Int × List Int)} {W w3 : World} (h : RI w t0 t1 uA uG yA yG W) (hb : Below w.heap.size w w3) (hg : W.grownBy w3 uG.ownBlock) (ho : (Kd.spare 3 kI).R 33 w3 w.heap.size tru u1 yG') :
    RI w t0 t1 uA u1 yA yG' (w3.setCell ⟨w.heap.size + 1 + 1, 1, none⟩ u1) := by
  obtain ⟨e1, e2, e3⟩ := h.grownrG hg
  refine ⟨below_set hb (by omega), blk_far e1 (p := ⟨w.heap.size + 1 + 1, 1, none⟩) (by show _ ≠ _; simp; omega) _, blk_far e2 (p := ⟨w.heap.size + 1 + 1, 1, none⟩) (by show _ ≠ _; simp) _, blk_set e3 1 u1, ?_, Kd.R_set ho e3 (by decide) 1 u1⟩
  exact Kd.R_set (Kd.R_over' h.rA (Kd.R_typed h.rG) (by decide) hg) e3 (by decide) 1 u1
theorem blk_new2 (w : World) (o o' o'' : Obj) : (((w.alloc o).alloc o').alloc o'').heap[w.heap.size + 1 + 1]? = some o'' := by
  have h := blk_new ((w.alloc o).alloc o') o''
  rwa [show ((w.alloc o).alloc o').heap.size = w.heap.size + 1 + 1 by simp] at h
theorem RI.start (w : World) (t0 t1 : Value) : RI w t0 t1 (.slice none 0 0) (.slice none 0 0) [] [] (((w.alloc (.cells #[t0, t1] 25)).alloc (.cells #[Value.slice none 0 0, Value.slice none 0 0] 25)).alloc (.cells #[Value.slice none 0 0, Value.slice none 0 0] 25)) :=
  ⟨below_alloc (below_alloc (below_alloc (Below.refl _ _) _) _) _, blk_alloc (blk_alloc (blk_new _ _) _) _, blk_alloc (blk_new1 _ _ _) _, blk_new2 _ _ _ _, Kd.R_nil _ _ _ _ _, Kd.R_nil _ _ _ _ _⟩
/-- A literal of one element. -/
theorem R_one {α : Type} (d : Kd α) (W : World) (base e : Nat) (ok okp : Nat → Prop) (x : α) (cs : List Value) (hM : d.M W base okp x cs) (hokp : ∀ k, okp k → ok k) (hb : base ≤ W.heap.size) (hok : ok W.heap.size) :
    d.R e (W.alloc (.cells cs.toArray e)) base ok (.slice (some ⟨W.heap.size, 0, none⟩) 1 1) [x] := by
  have hr : Reps (d.M (W.alloc (.cells cs.toArray e)) base (fun k => ok k ∧ some k ≠ (Value.slice (some ⟨W.heap.size, 0, none⟩) 1 1).ownBlock)) d.sz [x] ([] ++ cs) := by
    have h := Reps.snoc (Reps.none (d.M (W.alloc (.cells cs.toArray e)) base (fun k => ok k ∧ some k ≠ (Value.slice (some ⟨W.heap.size, 0, none⟩) 1 1).ownBlock)) d.sz) (p := x) (c := cs) ?_ (d.K_len (d.K_of_M hM))
    · exact h
    · refine Kd.M_alloc (d.M_mono (fun k hk => ⟨hokp k hk.1, ?_⟩) (d.M_bound hM)) _
      simp only [Value.ownBlock]
      intro he
      injection he with he
      have := hk.2.2.1
      omega
  have h := OwnRow.lit W base (e := e) hr hb (by simp)
  exact ⟨fun k hk => by simp only [Value.ownBlock] at hk; injection hk with hk; subst hk; exact hok, h⟩
theorem RI.rG' {w : World} {t0 t1 uA uG : Value} {yA : List (List S80 × List S80)} {yG : List (List Int × List Int)} {W w3 : World} (h : RI w t0 t1 uA uG yA yG W) (hg : W.grownBy w3 uA.ownBlock) : (Kd.spare 3 kI).R 33 w3 w.heap.size tru uG yG :=
  Kd.R_over' h.rG (Kd.R_typed h.rA) (by decide) hg
theorem mark_row {w w3 : World} {u : Value} {yG : List (List Int × List Int)} (hs : w.heap.size ≤ w3.heap.size) (h : (Kd.spare 3 kI).R 33 w3 w.heap.size tru u yG) :
    (Kd.spare 3 kI).M (w3.alloc (.cells #[.int .i64 (-77)] 3)) w.heap.size (fun k => some k ≠ u.ownBlock) (markG, []) [.slice (some ⟨w3.heap.size, 0, none⟩) 1 1] :=
  ⟨_, _, rfl, by
    have h' := R_one kI w3 w.heap.size 3 tru (fun _ => False) (-77 : Int) [.int .i64 (-77)] rfl (fun _ h => h.elim) hs trivial
    exact Kd.R_mono (Kd.R_apart' h' (Kd.R_typed (Kd.R_alloc h _)) (by decide)) (fun k hk => hk.2)⟩
theorem xA_length (l : List (List S80)) : (xA l).length = l.length := by simp [xA]
theorem xG_length (l : List (List Int)) : (xG l).length = l.length := by simp [xG]
theorem grow_blk {w w3 w4 : World} {u : Value} {yG : List (List Int × List Int)} {g t : Nat} {cs : Array Value} {o : Obj} (h : (Kd.spare 3 kI).R 33 w3 w.heap.size tru u yG) (hg : (w3.alloc o).grownBy w4 u.ownBlock) (hb : w3.heap[g]? = some (Obj.cells cs t (0, 0))) (ht : 33 ≠ t) : w4.heap[g]? = some (Obj.cells cs t (0, 0)) :=
  blk_grown (blk_alloc hb o) hg (Kd.R_ne (Kd.R_alloc h o) (blk_alloc hb o) ht)
end Go.Proofs.Ytcijanmckhlpiaa
