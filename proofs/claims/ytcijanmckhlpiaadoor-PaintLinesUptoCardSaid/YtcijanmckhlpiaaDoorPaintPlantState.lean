import Derived.Test.YtcijanmckhlpiaaDoorPaintLang
namespace Go.Proofs.YtcijanmckhlpiaaDoor
open Go.RowKit Go.Proofs.YtcijanmckhlpiaaDoorW.PrintWords Go.Proofs.YtcijanmckhlpiaaDoorW.PrintLast Go.Proofs.YtcijanmckhlpiaaDoorW.PrintMore Go.Proofs.YtcijanmckhlpiaaDoor.PPaintLines
set_option linter.unusedVariables false
set_option linter.unusedSimpArgs false
namespace Paint
theorem own_lt {α : Type} {d : Kd α} {e base : Nat} {ok : Nat → Prop} {W : World} {v : Value} {xs : List α} (h : d.R e W base ok v xs) : ∀ k, v.ownBlock = some k → k < W.heap.size := fun k hk => by
  obtain ⟨c, hc⟩ := Kd.R_typed h k hk
  exact blk_lt hc
theorem below_none {W X : World} (hg : W.grownBy X none) : Below W.heap.size W X := ⟨hg.os, hg.tape, hg.output, hg.size, fun i hi => hg.block i hi (by simp)⟩
abbrev Ap (u v : Value) : Prop := ∀ k, u.ownBlock = some k → v.ownBlock ≠ some k
theorem apart_of {W : World} {u v : Value} (hu : ∀ k, u.ownBlock = some k → k < W.heap.size) (hv : ∃ b, v.ownBlock = some b ∧ W.heap.size ≤ b) : Ap u v := fun k hk e => by
  obtain ⟨b, h1, h2⟩ := hv
  rw [h1] at e; injection e with e; subst e
  have := hu _ hk; omega
theorem apart_symm {u v : Value} (h : Ap u v) : Ap v u := fun k hk e => h k e hk
/-- The old row, or one anew. -/
theorem apart_new {W : World} {u v u1 : Value} (h : Ap u v) (hv : ∀ k, v.ownBlock = some k → k < W.heap.size) (hat : u1.ownBlock = u.ownBlock ∨ ∃ b, u1.ownBlock = some b ∧ W.heap.size ≤ b) : Ap u1 v := by
  intro k hk e
  rcases hat with ha | ⟨b, ha, hb⟩
  · exact h k (ha.symm.trans hk) e
  · rw [ha] at hk; injection hk with hk; subst hk; have := hv _ e; omega
theorem R_sc_ok {α : Type} {enc : α → Value} {h1 : ∀ x, (enc x).oneCell' = true} {e base : Nat} {ok ok' : Nat → Prop} {W : World} {v : Value} {xs : List α} (h : (Kd.scalar enc h1).R e W base ok v xs) (h0 : ∀ k, v.ownBlock = some k → ok' k) : (Kd.scalar enc h1).R e W base ok' v xs := ⟨h0, h.2⟩
theorem R_sc_grown {e base : Nat} {W W1 : World} {v : Value} {r : Option Nat} {xs : List Int} (h : kI.R e W base tru v xs) (hg : W.grownBy W1 r) (hr : ∀ k, v.ownBlock = some k → r ≠ some k) : kI.R e W1 base tru v xs :=
  R_sc_ok (Kd.R_grown (R_sc_ok h (ok' := fun k => some k ≠ r) (fun k hk e => hr k hk e.symm)) hg (fun k hk => hk)) (fun _ _ => trivial)
/-- The ends of all nodes. -/
def endsL (l : List S100) : List Int := (List.range l.length).map fun x => ((en l x : Nat) : Int)
/-- The state of plant's walk: the result's box, the forest's box, and four rows of ints that are apart. -/
structure PS (w : World) (fb : Nat) (fc : Array Value) (vp ve vo vl : Value) (lp E os ls : List Int) (W : World) : Prop where
  below : Below w.heap.size w W
  rb : W.heap[w.heap.size]? = some (Obj.cells #[Value.slice none 0 0, Value.slice none 0 0, Value.slice none 0 0, Value.bool false] 221 (0, 0))
  b : W.heap[fb]? = some (Obj.cells fc 221 (0, 0))
  rp : kI.R 3 W w.heap.size tru vp lp
  re : kI.R 3 W w.heap.size tru ve E
  ro : kI.R 3 W w.heap.size tru vo os
  rl : kI.R 3 W w.heap.size tru vl ls
  ape : Ap vp ve
  apo : Ap vp vo
  apl : Ap vp vl
  aeo : Ap ve vo
  ael : Ap ve vl
  aol : Ap vo vl
section
variable {w W W1 : World} {fb : Nat} {fc : Array Value} {vp ve vo vl v1 : Value} {lp E os ls xs : List Int}
theorem PS.later (h : PS w fb fc vp ve vo vl lp E os ls W) (hb : Below W.heap.size W W1) : PS w fb fc vp ve vo vl lp E os ls W1 :=
  ⟨below_step h.below hb, blk_below h.rb hb, blk_below h.b hb, Kd.R_below h.rp hb, Kd.R_below h.re hb, Kd.R_below h.ro hb, Kd.R_below h.rl hb, h.ape, h.apo, h.apl, h.aeo, h.ael, h.aol⟩
theorem PS.growP (h : PS w fb fc vp ve vo vl lp E os ls W) (hg : W.grownBy W1 vp.ownBlock) (hb : Below w.heap.size w W1) (ho : kI.R 3 W1 w.heap.size tru v1 xs) (hat : v1.ownBlock = vp.ownBlock ∨ ∃ b, v1.ownBlock = some b ∧ W.heap.size ≤ b) : PS w fb fc v1 ve vo vl xs E os ls W1 :=
  ⟨hb, blk_grown h.rb hg (Kd.R_ne h.rp h.rb (by decide)), blk_grown h.b hg (Kd.R_ne h.rp h.b (by decide)), ho, R_sc_grown h.re hg (apart_symm h.ape), R_sc_grown h.ro hg (apart_symm h.apo), R_sc_grown h.rl hg (apart_symm h.apl), apart_new h.ape (own_lt h.re) hat, apart_new h.apo (own_lt h.ro) hat, apart_new h.apl (own_lt h.rl) hat, h.aeo, h.ael, h.aol⟩
theorem PS.setP {g n cap : Nat} (h : PS w fb fc (.slice (some ⟨g, 0, none⟩) n cap) ve vo vl lp E os ls W) (hgb : w.heap.size ≤ g) (i : Nat) (x : Int) : PS w fb fc (.slice (some ⟨g, 0, none⟩) n cap) ve vo vl (lp.set i x) E os ls (W.setCell ⟨g, i, none⟩ (.int .i64 x)) := by
  have hp := Kd.R_putg h.rp (i : Int) x
  rw [Int.toNat_natCast] at hp
  exact PS.growP (W := W) h hp.2 (below_set h.below hgb) hp.1 (.inl rfl)
theorem PS.takeP {A : Option Addr} {n c m : Nat} (h : PS w fb fc (.slice A n c) ve vo vl lp E os ls W) (hm : m ≤ lp.length) (ho : (Value.slice A m c).ownBlock = (Value.slice A n c).ownBlock) : PS w fb fc (.slice A m c) ve vo vl (lp.take m) E os ls W :=
  ⟨h.below, h.rb, h.b, Kd.R_take h.rp hm, h.re, h.ro, h.rl, fun k hk => h.ape k (ho ▸ hk), fun k hk => h.apo k (ho ▸ hk), fun k hk => h.apl k (ho ▸ hk), h.aeo, h.ael, h.aol⟩
theorem PS.growE (h : PS w fb fc vp ve vo vl lp E os ls W) (hg : W.grownBy W1 ve.ownBlock) (hb : Below w.heap.size w W1) (ho : kI.R 3 W1 w.heap.size tru v1 xs) (hat : v1.ownBlock = ve.ownBlock ∨ ∃ b, v1.ownBlock = some b ∧ W.heap.size ≤ b) : PS w fb fc vp v1 vo vl lp xs os ls W1 :=
  ⟨hb, blk_grown h.rb hg (Kd.R_ne h.re h.rb (by decide)), blk_grown h.b hg (Kd.R_ne h.re h.b (by decide)), R_sc_grown h.rp hg h.ape, ho, R_sc_grown h.ro hg (apart_symm h.aeo), R_sc_grown h.rl hg (apart_symm h.ael), apart_symm (apart_new (apart_symm h.ape) (own_lt h.rp) hat), h.apo, h.apl, apart_new h.aeo (own_lt h.ro) hat, apart_new h.ael (own_lt h.rl) hat, h.aol⟩
theorem PS.setE {g n cap : Nat} (h : PS w fb fc vp (.slice (some ⟨g, 0, none⟩) n cap) vo vl lp E os ls W) (hgb : w.heap.size ≤ g) (i : Nat) (x : Int) : PS w fb fc vp (.slice (some ⟨g, 0, none⟩) n cap) vo vl lp (E.set i x) os ls (W.setCell ⟨g, i, none⟩ (.int .i64 x)) := by
  have hp := Kd.R_putg h.re (i : Int) x
  rw [Int.toNat_natCast] at hp
  exact PS.growE (W := W) h hp.2 (below_set h.below hgb) hp.1 (.inl rfl)
theorem PS.takeE {A : Option Addr} {n c m : Nat} (h : PS w fb fc vp (.slice A n c) vo vl lp E os ls W) (hm : m ≤ E.length) (ho : (Value.slice A m c).ownBlock = (Value.slice A n c).ownBlock) : PS w fb fc vp (.slice A m c) vo vl lp (E.take m) os ls W :=
  ⟨h.below, h.rb, h.b, h.rp, Kd.R_take h.re hm, h.ro, h.rl, fun k hk e => h.ape k hk (ho ▸ e), h.apo, h.apl, fun k hk => h.aeo k (ho ▸ hk), fun k hk => h.ael k (ho ▸ hk), h.aol⟩
theorem PS.growO (h : PS w fb fc vp ve vo vl lp E os ls W) (hg : W.grownBy W1 vo.ownBlock) (hb : Below w.heap.size w W1) (ho : kI.R 3 W1 w.heap.size tru v1 xs) (hat : v1.ownBlock = vo.ownBlock ∨ ∃ b, v1.ownBlock = some b ∧ W.heap.size ≤ b) : PS w fb fc vp ve v1 vl lp E xs ls W1 :=
  ⟨hb, blk_grown h.rb hg (Kd.R_ne h.ro h.rb (by decide)), blk_grown h.b hg (Kd.R_ne h.ro h.b (by decide)), R_sc_grown h.rp hg h.apo, R_sc_grown h.re hg h.aeo, ho, R_sc_grown h.rl hg (apart_symm h.aol), h.ape, apart_symm (apart_new (apart_symm h.apo) (own_lt h.rp) hat), h.apl, apart_symm (apart_new (apart_symm h.aeo) (own_lt h.re) hat), h.ael, apart_new h.aol (own_lt h.rl) hat⟩
theorem PS.setO {g n cap : Nat} (h : PS w fb fc vp ve (.slice (some ⟨g, 0, none⟩) n cap) vl lp E os ls W) (hgb : w.heap.size ≤ g) (i : Nat) (x : Int) : PS w fb fc vp ve (.slice (some ⟨g, 0, none⟩) n cap) vl lp E (os.set i x) ls (W.setCell ⟨g, i, none⟩ (.int .i64 x)) := by
  have hp := Kd.R_putg h.ro (i : Int) x
  rw [Int.toNat_natCast] at hp
  exact PS.growO (W := W) h hp.2 (below_set h.below hgb) hp.1 (.inl rfl)
theorem PS.takeO {A : Option Addr} {n c m : Nat} (h : PS w fb fc vp ve (.slice A n c) vl lp E os ls W) (hm : m ≤ os.length) (ho : (Value.slice A m c).ownBlock = (Value.slice A n c).ownBlock) : PS w fb fc vp ve (.slice A m c) vl lp E (os.take m) ls W :=
  ⟨h.below, h.rb, h.b, h.rp, h.re, Kd.R_take h.ro hm, h.rl, h.ape, fun k hk e => h.apo k hk (ho ▸ e), h.apl, fun k hk e => h.aeo k hk (ho ▸ e), h.ael, fun k hk => h.aol k (ho ▸ hk)⟩
theorem PS.growL (h : PS w fb fc vp ve vo vl lp E os ls W) (hg : W.grownBy W1 vl.ownBlock) (hb : Below w.heap.size w W1) (ho : kI.R 3 W1 w.heap.size tru v1 xs) (hat : v1.ownBlock = vl.ownBlock ∨ ∃ b, v1.ownBlock = some b ∧ W.heap.size ≤ b) : PS w fb fc vp ve vo v1 lp E os xs W1 :=
  ⟨hb, blk_grown h.rb hg (Kd.R_ne h.rl h.rb (by decide)), blk_grown h.b hg (Kd.R_ne h.rl h.b (by decide)), R_sc_grown h.rp hg h.apl, R_sc_grown h.re hg h.ael, R_sc_grown h.ro hg h.aol, ho, h.ape, h.apo, apart_symm (apart_new (apart_symm h.apl) (own_lt h.rp) hat), h.aeo, apart_symm (apart_new (apart_symm h.ael) (own_lt h.re) hat), apart_symm (apart_new (apart_symm h.aol) (own_lt h.ro) hat)⟩
theorem PS.setL {g n cap : Nat} (h : PS w fb fc vp ve vo (.slice (some ⟨g, 0, none⟩) n cap) lp E os ls W) (hgb : w.heap.size ≤ g) (i : Nat) (x : Int) : PS w fb fc vp ve vo (.slice (some ⟨g, 0, none⟩) n cap) lp E os (ls.set i x) (W.setCell ⟨g, i, none⟩ (.int .i64 x)) := by
  have hp := Kd.R_putg h.rl (i : Int) x
  rw [Int.toNat_natCast] at hp
  exact PS.growL (W := W) h hp.2 (below_set h.below hgb) hp.1 (.inl rfl)
theorem PS.takeL {A : Option Addr} {n c m : Nat} (h : PS w fb fc vp ve vo (.slice A n c) lp E os ls W) (hm : m ≤ ls.length) (ho : (Value.slice A m c).ownBlock = (Value.slice A n c).ownBlock) : PS w fb fc vp ve vo (.slice A m c) lp E os (ls.take m) W :=
  ⟨h.below, h.rb, h.b, h.rp, h.re, h.ro, Kd.R_take h.rl hm, h.ape, h.apo, fun k hk e => h.apl k hk (ho ▸ e), h.aeo, fun k hk e => h.ael k hk (ho ▸ e), fun k hk e => h.aol k hk (ho ▸ e)⟩
end
end Paint
end Go.Proofs.YtcijanmckhlpiaaDoor
