import Derived.WalkArith
import Derived.Test.YtcijanmckhlpiaaDoorPaintBack
namespace Go.Proofs.YtcijanmckhlpiaaDoor
open Go.RowKit Go.Shelf Go.Proofs.YtcijanmckhlpiaaDoorW.PrintWords Go.Proofs.YtcijanmckhlpiaaDoorW.PrintLast Go.Proofs.YtcijanmckhlpiaaDoorW.PrintMore Go.Proofs.YtcijanmckhlpiaaDoor.PPaintLines
set_option linter.unusedVariables false
set_option linter.unusedSimpArgs false
attribute [local go_sem] Oper.semAt_some
namespace Paint
/-- The map of names when these lines' places have come. -/
def datM (l : List PD) (pre : List (Fin l.length)) : DU := pre.foldl (fun D j => D.put (kl (l[j.1]).1) (.lit (.int .i64 ((j.1 : Nat) : Int)))) (.map [])
theorem datM_snoc (l : List PD) (pre : List (Fin l.length)) (j : Fin l.length) : datM l (pre ++ [j]) = (datM l pre).put (kl (l[j.1]).1) (.lit (.int .i64 ((j.1 : Nat) : Int))) := by simp [datM]
theorem datM_came (l : List PD) : ∀ d k, k + d = l.length → LM (datM l (came l.length k)) l k
  | 0, k, h => by
    obtain rfl : k = l.length := by omega
    rw [came_all]; exact LM.start l
  | d + 1, k, h => by
    rw [came_step (show k < l.length by omega), datM_snoc]
    exact (datM_came l d (k + 1) (by omega)).step (by omega)
theorem cells_own {β : Type} {W W' : World} {b : Nat} {cs : Array Value} {t : TypeId} {row : Option Nat} (h : W.heap[b]? = some (.cells cs t (0, 0))) (hg : W.grownBy W' row) (hr : ∀ r, row = some r → ∃ o : Obj, W.heap[r]? = some o ∧ o.isCells = false) : W'.heap[b]? = some (.cells cs t (0, 0)) :=
  (hg.block b (Array.getElem?_eq_some_iff.1 h).1 (fun e' => by obtain ⟨o, ho, hc⟩ := hr b e'.symm; rw [h] at ho; cases ho; cases hc)).trans h
set_option maxRecDepth 100000 in
set_option maxHeartbeats 2000000 in
theorem lines_in (F : Fence) (n : Nat) (h35 : F.fn 37) (h46 : F.fn 58) (h55 : F.fn 82) (hro : F.round = none) (hn : 3 ≤ n) (A : Option Addr) (c : Nat) (l : List PD) (w : World) (hr : kPD.C w A l.length l) (hz : l.length ≤ 1048576) (hs : ∀ x ∈ l, x.1.size ≤ maxLen) :
    CallsIn F n Tryd.prog 37 #[LG (.slice A l.length c)] w fun e W' => ∃ b D, e = .returned (.map (some b)) ∧ W'.ownsMap Tryd.prog 9 (plainElem (H := Unit) Tryd.prog 3) b l.length D ∧ LM D l 0 ∧ w.heap.size ≤ b ∧ Below w.heap.size w W' := by
  have h1 : 1 ≤ n := by omega
  have hmm := @run_makeMap Tryd.prog
  unfold LG
  refine callsIn_of_wp_marks Tryd.func37 rfl h35 ?_ hro
  simp only [Tryd.ntmps37, List.size_toArray, List.length_cons, List.length_nil, Nat.reduceAdd, Nat.reduceSub, Array.replicate_succ, Array.replicate_zero, List.push_toArray, List.append_toArray, List.nil_append, List.cons_append]
  gi_wp2_with (gi_at_call 58; refine (backP F (n - 1) h46 hro _ _ _ _).mono ?_; rintro e w' ⟨rfl, rfl⟩)
  have hm0 : ((w.alloc (.cells #[.string ⟨#[]⟩, .slice none 0 0, .slice none 0 0, .slice none 0 0, .slice none 0 0, .slice none 0 0, .slice none 0 0, .slice none 0 0, .slice A l.length c, .slice none 0 0, .slice none 0 0, .slice none 0 0] 57)).alloc (.map #[] 0)).ownsMap Tryd.prog 9 (plainElem (H := Unit) Tryd.prog 3) (w.alloc (.cells #[.string ⟨#[]⟩, .slice none 0 0, .slice none 0 0, .slice none 0 0, .slice none 0 0, .slice none 0 0, .slice none 0 0, .slice none 0 0, .slice A l.length c, .slice none 0 0, .slice none 0 0, .slice none 0 0] 57)).heap.size 0 (.map []) := World.ownsMap_made (w.alloc (.cells #[.string ⟨#[]⟩, .slice none 0 0, .slice none 0 0, .slice none 0 0, .slice none 0 0, .slice none 0 0, .slice none 0 0, .slice none 0 0, .slice A l.length c, .slice none 0 0, .slice none 0 0, .slice none 0 0] 57)) Tryd.prog 9 (plainElem (H := Unit) Tryd.prog 3)
  have bM := (Boxed.new ((w.alloc (.cells #[.string ⟨#[]⟩, .slice none 0 0, .slice none 0 0, .slice none 0 0, .slice none 0 0, .slice none 0 0, .slice none 0 0, .slice none 0 0, .slice A l.length c, .slice none 0 0, .slice none 0 0, .slice none 0 0] 57)).alloc (.map #[] 0)) 103 (.map (some (w.heap.size + 1)))).alloc (.cells #[.slice A l.length c] 37)
  have bN := Boxed.new (((w.alloc (.cells #[.string ⟨#[]⟩, .slice none 0 0, .slice none 0 0, .slice none 0 0, .slice none 0 0, .slice none 0 0, .slice none 0 0, .slice none 0 0, .slice A l.length c, .slice none 0 0, .slice none 0 0, .slice none 0 0] 57)).alloc (.map #[] 0)).alloc (.cells #[.map (some (w.heap.size + 1))] 103)) 37 (.slice A l.length c)
  have hm1 := (hm0.alloc (.cells #[.map (some (w.heap.size + 1))] 103)).alloc (.cells #[.slice A l.length c] 37)
  simp only [World.size_alloc] at bM bN hm1
  have hB0 : Below w.heap.size w ((((w.alloc (.cells #[.string ⟨#[]⟩, .slice none 0 0, .slice none 0 0, .slice none 0 0, .slice none 0 0, .slice none 0 0, .slice none 0 0, .slice none 0 0, .slice A l.length c, .slice none 0 0, .slice none 0 0, .slice none 0 0] 57)).alloc (.map #[] 0)).alloc (.cells #[.map (some (w.heap.size + 1))] 103)).alloc (.cells #[.slice A l.length c] 37)) := ((((Below.refl _ w).alloc (Nat.le_refl _) _).alloc (by simp) _).alloc (by simp; omega) _).alloc (by simp; omega) _
  have hsz : ((((w.alloc (.cells #[.string ⟨#[]⟩, .slice none 0 0, .slice none 0 0, .slice none 0 0, .slice none 0 0, .slice none 0 0, .slice none 0 0, .slice none 0 0, .slice A l.length c, .slice none 0 0, .slice none 0 0, .slice none 0 0] 57)).alloc (.map #[] 0)).alloc (.cells #[.map (some (w.heap.size + 1))] 103)).alloc (.cells #[.slice A l.length c] 37)).heap.size = w.heap.size + 4 := by simp
  clear hm0
  obtain ⟨W0, hW0⟩ : ∃ W0, ((((w.alloc (.cells #[.string ⟨#[]⟩, .slice none 0 0, .slice none 0 0, .slice none 0 0, .slice none 0 0, .slice none 0 0, .slice none 0 0, .slice none 0 0, .slice A l.length c, .slice none 0 0, .slice none 0 0, .slice none 0 0] 57)).alloc (.map #[] 0)).alloc (.cells #[.map (some (w.heap.size + 1))] 103)).alloc (.cells #[.slice A l.length c] 37)) = W0 := ⟨_, rfl⟩
  rw [hW0] at bM bN hm1 hB0 hsz ⊢
  clear hW0
  refine wpIn_rangeFunc_ownH hro h1 (gf := 82) (lb := #[.pointer (some ⟨w.heap.size + 1 + 1 + 1, 0, none⟩)]) rfl h55 (enters_of Tryd.func82 (by kernel_rfl) rfl)
    (backP_stops F (n - 1) h55 hro (by omega) (w.heap.size + 1 + 1 + 1) w W0 A c l hr hz hB0 (by omega) bN.cell) kpB_t (kpB_b (by omega) (by omega)) (Below.refl _ _) (fun _ => rfl)
    (fun pre W => ((Boxed W (w.heap.size + 1 + 1) 103 (.map (some (w.heap.size + 1))) ∧ Boxed W (w.heap.size + 1 + 1 + 1) 37 (.slice A l.length c)) ∧ W.ownsMap Tryd.prog 9 (plainElem (H := Unit) Tryd.prog 3) (w.heap.size + 1) pre.length (datM l pre)) ∧ Below w.heap.size w W)
    (fun _ _ _ => False)
    (OwnFrom.and (OwnFrom.and (OwnFrom.and (Own.from (boxed_own _ _ _) _) (Own.from (boxed_own _ _ _) _)) (fun s A B row hs hg hr => hs.kept hg (fun e => by have := (hr _ e.symm).1; omega))) (ownFrom_below (Nat.le_refl _) (by omega)))
    (fun _ _ _ _ _ hs _ _ => hs)
    ⟨⟨⟨bM, bN⟩, hm1⟩, hB0⟩
    (fun x a' W => ∃ Bx, w.heap.size + 4 ≤ Bx ∧ W.heap[Bx]? = some (.cells #[.string (rdP l (x.1 : Int)).1, .string (rdP l (x.1 : Int)).2] 42 (0, 0)) ∧ a' = { tmps := #[.agg #[.string ⟨#[]⟩, .slice none 0 0, .slice none 0 0, .slice none 0 0, .slice none 0 0, .slice none 0 0, .slice none 0 0, .slice none 0 0, .slice A l.length c, .slice none 0 0, .slice none 0 0, .slice none 0 0], .pointer (some ⟨w.heap.size, 0, none⟩), .map none, .pointer (some ⟨w.heap.size + 1 + 1, 0, none⟩), .int .i64 ((x.1 : Nat) : Int), .pointer (some ⟨Bx, 0, none⟩), .map (some (w.heap.size + 1)), .pointer (some ⟨w.heap.size, 8, none⟩), .slice A l.length c, .func (.func 82) #[] #[.pointer (some ⟨w.heap.size + 1 + 1 + 1, 0, none⟩)], .int .i64 ((x.1 : Nat) : Int), .agg #[.string (rdP l (x.1 : Int)).1, .string (rdP l (x.1 : Int)).2], undef, undef, undef, undef, undef], defers := [] })
    (fun x a' _ X Y row hs hg hr => by obtain ⟨Bx, h1, h2, h3⟩ := hs; exact ⟨Bx, h1, cells_own (β := Unit) h2 hg (fun r e => (hr r e).2), h3⟩)
    ?assign ?body ?done ?stop
  case assign =>
    rintro ll pre x W K ⟨⟨⟨bM1, bN1⟩, hm2⟩, hB1⟩ hK
    have hsW := hB1.size
    unfold encP
    gi_wp2
    have hn3 := bN1.lt
    exact hK _ _ ((KeepsOthers.alloc _ _).from _) ⟨(Below.refl _ W).alloc hsW _, (bN1.alloc _).cell.trans bN1.cell.symm⟩ ⟨⟨⟨bM1.alloc _, bN1.alloc _⟩, hm2.alloc _⟩, hB1.alloc hsW _⟩ ⟨W.heap.size, by omega, blk_new W _, rfl⟩
  case body =>
    rintro ll pre x a' W hl ⟨r, hr1⟩ ⟨⟨⟨bM1, bN1⟩, hm2⟩, hB1⟩ ⟨Bx, hBx, bX, rfl⟩ hlt
    have cM := bM1.cell
    have cX : W.cell? ⟨Bx, 0, none⟩ = some (.string (rdP l (x.1 : Int)).1) := blk_cell bX 0
    have hkey : keyOf Tryd.prog 9 (.string (rdP l (x.1 : Int)).1) = some (kl (rdP l (x.1 : Int)).1) := WideMaps.keyOf_string_mk Tryd.underlying9 (by rw [rdP_get l x.1 x.2]; exact hs _ (List.getElem_mem x.2))
    have hwf : (Lit.int .i64 ((x.1 : Nat) : Int)).wf = true := WalkArith.wf_i64 (by have := x.2; omega)
    gi_wp2_with (gi_at_mapUpdate; refine wpListIn_mapUpdate_own _ rfl _ _ _ 103 rfl 9 3 (Maps.string_keyed Tryd.underlying9) Tryd.underlying103 _ (w.heap.size + 1) pre.length _ rfl hm2 (by have : maxLen = 9223372036854775807 := rfl; omega) _ _ _ rfl rfl hkey _ [] (plainElem_int Tryd.underlying3 hwf) ?_; intro w1 hown1 hgrow1)
    have hM2 := bM1.kept hgrow1 (fun e => by injection e with e; omega)
    have hN2 := bN1.kept hgrow1 (fun e => by injection e with e; omega)
    have hB2 := hB1.grown hgrow1 hB1.size (fun k e => by cases e; omega)
    have hD : w1.ownsMap Tryd.prog 9 (plainElem (H := Unit) Tryd.prog 3) (w.heap.size + 1) (pre ++ [x]).length (datM l (pre ++ [x])) := by
      rw [datM_snoc, List.length_append, ← rdP_get l x.1 x.2]; exact hown1
    exact ⟨KeepsFrom.of_grownBy hgrow1 (fun j e => by cases e; omega), ⟨(Below.refl _ W).grown hgrow1 hB1.size (fun k e => by cases e; omega), hN2.cell.trans bN1.cell.symm⟩, ⟨⟨hM2, hN2⟩, hD⟩, hB2⟩
  case done =>
    rintro D ys W hD rfl ⟨⟨⟨bM1, bN1⟩, hm2⟩, hB1⟩ hK
    have cM := bM1.cell
    gi_wp2
    refine ⟨by simp, .inl ⟨_, _, rfl, run_takeDeferred hK, ?_⟩⟩
    have hlen : (came l.length 0).length = l.length := by rw [came_len]; rfl
    rw [hlen] at hm2
    exact ⟨_, results_tmp rfl _ _ _, _, _, rfl, hm2.kept (grownBy_putObj' _ D _) (fun e => by injection e with e; omega), datM_came l l.length 0 (by omega), by omega, hB1.trans (belowK_b (w := w) (Nat.le_refl _) W D _ _ (by omega) hK rfl rfl)⟩
  case stop =>
    rintro D cc pre W _ _ h
    exact h.elim
end Paint
end Go.Proofs.YtcijanmckhlpiaaDoor
