import Derived.Test.YtcijanmckhlpiaaWMore
import Derived.MapKept
namespace Go.Proofs.YtcijanmckhlpiaaW.PrintWords
open Go.RowKit
set_option linter.unusedVariables false
set_option linter.unusedSimpArgs false

/-- Block b is a map with just these entries (in this order), its keys ints. -/
def MapIs (W : World) (b : Nat) (es : List (Int × Value)) : Prop :=
  ∃ (arr : Array MapEntry) (clock : Nat), W.heap[b]? = some (Obj.map arr clock) ∧ arr.toList.map (fun e => (e.key, e.val)) = es.map (fun x => (Value.int .i64 x.1, x.2))
theorem findNow_int (k : Int) : ∀ (l : List MapEntry) (es : List (Int × Value)) (i : Nat), l.map (fun e => (e.key, e.val)) = es.map (fun x => (Value.int .i64 x.1, x.2)) →
    ∃ r, Instr.findNow (.int .i64) (.int .i64 k) l i = some r ∧ r.map (·.2) = es.lookup k ∧ (es.lookup k = none → r = none)
  | [], [], i, _ => ⟨none, rfl, rfl, fun _ => rfl⟩
  | [], x :: es, i, h => by simp at h
  | e :: l, [], i, h => by simp at h
  | e :: l, x :: es, i, h => by
    simp only [List.map_cons, List.cons.injEq, Prod.mk.injEq] at h
    obtain ⟨⟨h1, h2⟩, h3⟩ := h
    obtain ⟨x1, x2⟩ := x
    obtain ⟨r, g1, g2, g3⟩ := findNow_int k l es (i + 1) h3
    simp only at h1 h2
    unfold Instr.findNow
    rw [h1]
    by_cases hk : k = x1
    · subst hk
      refine ⟨some (i, e.val), ?_, ?_, ?_⟩
      · simp [Instr.sameNow]
      · simp [List.lookup, h2]
      · simp [List.lookup]
    · refine ⟨r, ?_, ?_, ?_⟩
      · simp [Instr.sameNow, beq_eq_false_iff_ne.2 hk, g1]
      · simp only [List.lookup, beq_eq_false_iff_ne.2 hk]; exact g2
      · simp only [List.lookup, beq_eq_false_iff_ne.2 hk]; exact g3
theorem run_insert_int {P : Program} {mty kt et : TypeId} (hm : P.underlying mty = some (.map kt et)) (hk : P.underlying kt = some (.int .i64)) {W : World} {b : Nat} {es : List (Int × Value)} (h : MapIs W b es) (k : Int) (v : Value) (hno : es.lookup k = none) :
    ∃ W1, (Instr.mapUpdate mty (.map (some b)) (.int .i64 k) v).run P W = .ok () W1 ∧ MapIs W1 b (es ++ [(k, v)]) ∧ W1.heap.size = W.heap.size ∧ (∀ g, g ≠ b → W1.heap[g]? = W.heap[g]?) ∧ W1.os = W.os ∧ W1.tape = W.tape ∧ W1.output = W.output := by
  obtain ⟨arr, clock, hb, he⟩ := h
  obtain ⟨r, h1, h2, h3⟩ := findNow_int k arr.toList es 0 he
  obtain rfl := h3 hno
  have hc : (Instr.checkKey false 10000 kt (.int .i64 k)).run P W = .ok () W := MapKept.run_checkKey (k := .int .i64 k) hk (by simp [MapKept.IsKey]) false 9999
  refine ⟨{ W with heap := W.heap.setIfInBounds b (.map (arr.push { key := .int .i64 k, val := v, born := clock }) (clock + 1)) }, ?_, ⟨arr.push { key := .int .i64 k, val := v, born := clock }, clock + 1, ?_, ?_⟩, ?_, ?_, rfl, rfl, rfl⟩
  rotate_left
  · show (W.heap.setIfInBounds b (.map (arr.push { key := .int .i64 k, val := v, born := clock }) (clock + 1)))[b]? = _
    have hlt := blk_lt hb
    simp [Array.getElem?_setIfInBounds, hlt]
  · simp [he]
  · simp
  · intro g hg
    show (W.heap.setIfInBounds b _)[g]? = _
    rw [Array.getElem?_setIfInBounds, if_neg (by omega)]
  · simp [Instr.mapUpdate, run_underlying hm, MapKept.run_getObj_map hb, hc, MapKept.run_findKey hk h1, MapKept.run_setObj_map _ hb, Result.andThen]
theorem run_lookup_int {P : Program} {mty kt et : TypeId} (hm : P.underlying mty = some (.map kt et)) (hk : P.underlying kt = some (.int .i64)) {W : World} {b : Nat} {es : List (Int × Value)} (h : MapIs W b es) (k : Int) (z : Value) (hz : ∀ W : World, (zeroValue et).run P W = .ok z W) :
    (Instr.lookup mty (.map (some b)) (.int .i64 k) false).run P W = .ok ((es.lookup k).getD z) W := by
  obtain ⟨arr, clock, hb, he⟩ := h
  obtain ⟨r, h1, h2, h3⟩ := findNow_int k arr.toList es 0 he
  have hc : ∀ e, (Instr.checkKey e 10000 kt (.int .i64 k)).run P W = .ok () W := fun e => MapKept.run_checkKey (k := .int .i64 k) hk (by simp [MapKept.IsKey]) e 9999
  rw [← h2]
  cases r with
  | none => simp [Instr.lookup, run_underlying hm, MapKept.run_getObj_map hb, hc, MapKept.run_findKey hk h1, Result.andThen, hz]
  | some q => simp [Instr.lookup, run_underlying hm, MapKept.run_getObj_map hb, hc, MapKept.run_findKey hk h1, Result.andThen]
section
variable {P : Program} {ops : Array Oper} {rest : List Oper} {o : Oper} {a : Act} {Q : Exit → Act → World → Prop}
theorem gate_insert {W : World} {t : TypeId} {m x : Operand} (K : Int) (_ho : o.op = .insert t m (.const (.int .i64 K)) x) (h : wpList P ops Q (o :: rest) a W) : wpList P ops Q (o :: rest) a W := h
/-- An entry of a map's literal. -/
theorem insert_event {W : World} (hgd : o.guard = none) (hd : o.dst = none) {mty kt et : TypeId} {m k x : Operand} (ho : o.op = .insert mty m k x) (hm : P.underlying mty = some (.map kt et)) (hk : P.underlying kt = some (.int .i64)) {b : Nat} {es : List (Int × Value)} (key : Int) (v : Value)
    (hm' : a.eval m = .map (some b)) (hk' : a.eval k = .int .i64 key) (hx : a.eval x = v) (h : MapIs W b es) (hno : es.lookup key = none)
    (hn : ∀ W1, MapIs W1 b (es ++ [(key, v)]) → W1.heap.size = W.heap.size → (∀ g, g ≠ b → W1.heap[g]? = W.heap[g]?) → W1.os = W.os → W1.tape = W.tape → W1.output = W.output → wpList P ops Q rest a W1) : wpList P ops Q (o :: rest) a W := by
  obtain ⟨W1, h1, h2, h3, h4, h5, h6, h7⟩ := run_insert_int hm hk h key v hno
  have hrun : (execOp a.eval o).run P W = .ok .skip W1 := by
    unfold execOp
    rw [ho]
    simp only [hm', hk', hx]
    simp [h1, Result.andThen]
  refine wpList_plain hgd fun K hK => ?_
  unfold Oper.wp
  rw [hrun]
  have := hn W1 h2 h3 h4 h5 h6 h7
  show K (a.put o.dst undef) W1
  rw [hd]
  exact hK _ _ this
end
end Go.Proofs.YtcijanmckhlpiaaW.PrintWords
