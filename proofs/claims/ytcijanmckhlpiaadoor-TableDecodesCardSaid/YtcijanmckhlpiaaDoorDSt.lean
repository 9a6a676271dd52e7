import Derived.Test.YtcijanmckhlpiaaDoorDTabPlain
namespace Go.Proofs.YtcijanmckhlpiaaDoor
open Go.RowKit Go.Proofs.YtcijanmckhlpiaaDoorW.PrintWords Go.Proofs.YtcijanmckhlpiaaDoorW.PrintLast Go.Proofs.YtcijanmckhlpiaaDoorW.PrintMore Go.Proofs.YtcijanmckhlpiaaDoor.PTableDecodes
set_option linter.unusedVariables false
set_option linter.unusedSimpArgs false
namespace Dec
abbrev kI : Kd Int := Kd.int .i64
abbrev kA : Kd (List S93) := Kd.slice 93 k93
abbrev kG : Kd (List Int) := Kd.slice 3 kI
def tru (_ : Nat) : Prop := True
/-- A type that no row bears. -/
def plainT (t : Nat) : Prop := t ≠ 93 ∧ t ≠ 90 ∧ t ≠ 3 ∧ t ≠ 95
theorem kA_E {t : Nat} (h : plainT t) : ∀ q, q ∈ 90 :: kA.E → q ≠ t := by
  intro q hq
  have : q = 90 ∨ q = 93 := by simpa [kA, Kd.slice, k93, Kd.iso, Kd.pair, Kd.int, Kd.scalar] using hq
  rcases this with rfl | rfl
  · exact fun e => h.2.1 e.symm
  · exact fun e => h.1 e.symm
theorem kG_E {t : Nat} (h : plainT t) : ∀ q, q ∈ 95 :: kG.E → q ≠ t := by
  intro q hq
  have : q = 95 ∨ q = 3 := by simpa [kG, Kd.slice, kI, Kd.int, Kd.scalar] using hq
  rcases this with rfl | rfl
  · exact fun e => h.2.2.2 e.symm
  · exact fun e => h.2.2.1 e.symm
/-- What a reading of rows knows: the reader's block, the table's, others that stay; the rows made so far, apart from the row in the making. -/
structure St (w0 W : World) (g : Nat) (rc : Array Value) (rt : Nat) (bT : Nat) (tc : Array Value) (fix : List (Nat × Array Value × Nat)) (vl vA vG : Value) (rows : List (List S93)) (gos : List (List Int)) : Prop where
  below : Below w0.heap.size w0 W
  rd : W.heap[g]? = some (.cells rc rt (0, 0))
  rtp : plainT rt
  tb : W.heap[bT]? = some (.cells tc 25 (0, 0))
  ge : w0.heap.size ≤ g ∧ w0.heap.size ≤ bT ∧ bT ≠ g
  fixed : ∀ f ∈ fix, W.heap[f.1]? = some (.cells f.2.1 f.2.2 (0, 0)) ∧ plainT f.2.2 ∧ f.1 ≠ g ∧ f.1 ≠ bT
  rA : kA.R 90 W w0.heap.size (fun k => tru k ∧ some k ≠ vl.ownBlock) vA rows
  rG : kG.R 95 W w0.heap.size (fun k => tru k ∧ some k ≠ vl.ownBlock) vG gos
variable {w0 W W1 : World} {g rt bT : Nat} {rc tc : Array Value} {fix : List (Nat × Array Value × Nat)} {vl vA vG : Value} {rows : List (List S93)} {gos : List (List Int)}
theorem plain25 : plainT 25 := by unfold plainT; decide
theorem St.drop (h : St w0 W g rc rt bT tc fix vl vA vG rows gos) : St w0 W g rc rt bT tc fix (.slice none 0 0) vA vG rows gos :=
  ⟨h.below, h.rd, h.rtp, h.tb, h.ge, h.fixed, Kd.R_apart_nil (Kd.R_drop h.rA), Kd.R_apart_nil (Kd.R_drop h.rG)⟩
/-- Only the reader (and what is new) turns. -/
theorem St.call (h : St w0 W g rc rt bT tc fix vl vA vG rows gos) {rc' : Array Value} (hk : KeepBut W W1 g none) (hr : W1.heap[g]? = some (.cells rc' rt (0, 0))) (hb : Below w0.heap.size w0 W1) : St w0 W1 g rc' rt bT tc fix vl vA vG rows gos where
  below := hb
  rd := hr
  rtp := h.rtp
  tb := hk.blk h.tb h.ge.2.2 (by simp)
  ge := h.ge
  fixed := fun f hf => ⟨hk.blk (h.fixed f hf).1 (h.fixed f hf).2.2.1 (by simp), (h.fixed f hf).2⟩
  rA := Kd.R_mono (Kd.R_keep (Kd.R_types h.rA h.rd (kA_E h.rtp)) hk (fun _ hk => hk.2)) (fun _ hk => hk.1)
  rG := Kd.R_mono (Kd.R_keep (Kd.R_types h.rG h.rd (kG_E h.rtp)) hk (fun _ hk => hk.2)) (fun _ hk => hk.1)
theorem St.bel (h : St w0 W g rc rt bT tc fix vl vA vG rows gos) (hb : Below W.heap.size W W1) : St w0 W1 g rc rt bT tc fix vl vA vG rows gos :=
  h.call (KeepBut.of_below hb g none) (blk_below h.rd hb) (below_step h.below hb)
theorem St.alloc (h : St w0 W g rc rt bT tc fix vl vA vG rows gos) (o : Obj) : St w0 (W.alloc o) g rc rt bT tc fix vl vA vG rows gos := h.bel (below_alloc (Below.refl _ _) o)
theorem St.drewN (h : St w0 W g rc rt bT tc fix vl vA vG rows gos) (m : Nat) : St w0 (W.drewN m) g rc rt bT tc fix vl vA vG rows gos := h.bel (pw_below_drewN (Below.refl _ _) m)
/-- The row in the making is longer. -/
theorem St.app (h : St w0 W g rc rt bT tc fix vl vA vG rows gos) {e : Nat} {v1 : Value} (he : e = 93 ∨ e = 3) (ht : ∀ k, vl.ownBlock = some k → ∃ cells, W.heap[k]? = some (.cells cells e (0, 0)))
    (hg : W.grownBy W1 vl.ownBlock) (hat : v1.ownBlock = vl.ownBlock ∨ ∃ b, v1.ownBlock = some b ∧ W.heap.size ≤ b) (hb : Below w0.heap.size w0 W1) : St w0 W1 g rc rt bT tc fix v1 vA vG rows gos := by
  have ne : ∀ {k t : Nat} {cs : Array Value}, W.heap[k]? = some (.cells cs t (0, 0)) → plainT t → some k ≠ vl.ownBlock := by
    intro k t cs hk hp e2
    obtain ⟨cells, hc⟩ := ht k e2.symm
    rw [hc] at hk
    injection hk with hk
    injection hk with _ hk
    subst hk
    rcases he with rfl | rfl
    · exact hp.1 rfl
    · exact hp.2.2.1 rfl
  exact ⟨hb, blk_grown h.rd hg (ne h.rd h.rtp), h.rtp, blk_grown h.tb hg (ne h.tb plain25), h.ge, fun f hf => ⟨blk_grown (h.fixed f hf).1 hg (ne (h.fixed f hf).1 (h.fixed f hf).2.1), (h.fixed f hf).2⟩, Kd.R_after h.rA hg hat, Kd.R_after h.rG hg hat⟩
/-- A row more. -/
theorem St.appA (h : St w0 W g rc rt bT tc fix vl vA vG rows gos) {v1 : Value} {rows' : List (List S93)} (ho : kA.R 90 W1 w0.heap.size tru v1 rows') (hg : W.grownBy W1 vA.ownBlock) (hb : Below w0.heap.size w0 W1) : St w0 W1 g rc rt bT tc fix (.slice none 0 0) v1 vG rows' gos where
  below := hb
  rd := blk_grown h.rd hg (Kd.R_ne h.rA h.rd (fun e => h.rtp.2.1 e.symm))
  rtp := h.rtp
  tb := blk_grown h.tb hg (Kd.R_ne h.rA h.tb (by decide))
  ge := h.ge
  fixed := fun f hf => ⟨blk_grown (h.fixed f hf).1 hg (Kd.R_ne h.rA (h.fixed f hf).1 (fun e => (h.fixed f hf).2.1.2.1 e.symm)), (h.fixed f hf).2⟩
  rA := Kd.R_apart_nil ho
  rG := Kd.R_apart_nil (Kd.R_drop (Kd.R_over h.rG h.rA (by decide) hg))
theorem St.appG (h : St w0 W g rc rt bT tc fix vl vA vG rows gos) {v1 : Value} {gos' : List (List Int)} (ho : kG.R 95 W1 w0.heap.size tru v1 gos') (hg : W.grownBy W1 vG.ownBlock) (hb : Below w0.heap.size w0 W1) : St w0 W1 g rc rt bT tc fix (.slice none 0 0) vA v1 rows gos' where
  below := hb
  rd := blk_grown h.rd hg (Kd.R_ne h.rG h.rd (fun e => h.rtp.2.2.2 e.symm))
  rtp := h.rtp
  tb := blk_grown h.tb hg (Kd.R_ne h.rG h.tb (by decide))
  ge := h.ge
  fixed := fun f hf => ⟨blk_grown (h.fixed f hf).1 hg (Kd.R_ne h.rG (h.fixed f hf).1 (fun e => (h.fixed f hf).2.1.2.2.2 e.symm)), (h.fixed f hf).2⟩
  rA := Kd.R_apart_nil (Kd.R_drop (Kd.R_over h.rA h.rG (by decide) hg))
  rG := Kd.R_apart_nil ho
/-- A field of the table is stored. -/
theorem St.setT (h : St w0 W g rc rt bT tc fix vl vA vG rows gos) (j : Nat) (u : Value) {tc' : Array Value} (e : tc.setIfInBounds j u = tc') : St w0 (W.setCell ⟨bT, j, none⟩ u) g rc rt bT tc' fix vl vA vG rows gos where
  below := below_set h.below h.ge.2.1
  rd := blk_far h.rd (fun e => h.ge.2.2 e.symm) u
  rtp := h.rtp
  tb := blk_put h.tb j u e
  ge := h.ge
  fixed := fun f hf => ⟨blk_far (h.fixed f hf).1 (h.fixed f hf).2.2.2 u, (h.fixed f hf).2⟩
  rA := Kd.R_set h.rA h.tb (kA_E plain25) j u
  rG := Kd.R_set h.rG h.tb (kG_E plain25) j u
/-- A row's own block is none of another type's rows. -/
theorem R_ne_types {α β : Type} {d : Kd α} {d' : Kd β} {e e' b b' : Nat} {ok ok' : Nat → Prop} {v u : Value} {xs : List α} {ys : List β} (h : d.R e W b ok v xs) (hu : d'.R e' W b' ok' u ys) (ht : ∀ q, q ∈ e :: d.E → q ≠ e') : d.R e W b (fun k => some k ≠ u.ownBlock) v xs :=
  Kd.R_mono (Kd.R_bound h) (fun k hk he => by
    obtain ⟨_, _, _, q, hq, cells, hc⟩ := hk
    obtain ⟨inner, ho⟩ := Kd.R_own hu
    obtain ⟨cells', hc'⟩ := own_typed ho k he.symm
    rw [hc] at hc'
    injection hc' with hc'
    injection hc' with _ hc'
    exact ht q hq hc')
end Dec
end Go.Proofs.YtcijanmckhlpiaaDoor
