import Derived.Test.YtcijanmckhlpiaaSpansWalk
import Derived.Deep.Onto
import Derived.Maps.AppendAt
namespace Go.Proofs.Ytcijanmckhlpiaa
open Go.RowKit Go.Proofs.YtcijanmckhlpiaaW.PrintWords Go.Proofs.YtcijanmckhlpiaaW.PrintLast Go.Proofs.YtcijanmckhlpiaaW.PrintMore Go.Proofs.Ytcijanmckhlpiaa.PPaintClasses
set_option linter.unusedVariables false
set_option linter.unusedSimpArgs false
namespace Paint
abbrev Hdr := Option Addr × Nat × Nat
def hv (h : Hdr) : Value := .slice h.1 h.2.1 h.2.2
def mk1 (j q : Nat) : Value := if q % 3 = 0 then .int .i64 (-9) else if q % 3 = 1 then .int .i64 (1000 + (j : Int)) else .string ⟨#[]⟩
def mk2 (j q : Nat) : Value := if q % 3 = 0 then .int .i64 (-8) else if q % 3 = 1 then .int .i64 (500000 + (j : Int)) else .string ⟨#[]⟩
/-- The rows, cell by cell, of headers that are each a row of the call's own. -/
structure Rws (base : Nat) (W : World) (hs : List Hdr) (xss : List (List Value)) : Prop where
  len : xss.length = hs.length
  row : ∀ (j : Nat) (h : Hdr) (xs : List Value), hs[j]? = some h → xss[j]? = some xs → W.ownsRow base 72 3 (hv h) h.2.1 xs
def Aparts (hs : List Hdr) : Prop := ∀ (i j : Nat) (h h' : Hdr), i ≠ j → hs[i]? = some h → hs[j]? = some h' → Ap (hv h) (hv h')
theorem Rws.get {base : Nat} {W : World} {hs : List Hdr} {xss : List (List Value)} (H : Rws base W hs xss) {j : Nat} {h : Hdr} (hj : hs[j]? = some h) : ∃ xs, xss[j]? = some xs ∧ W.ownsRow base 72 3 (hv h) h.2.1 xs := by
  have h1 := (List.getElem?_eq_some_iff.1 hj).1
  have h2 : j < xss.length := by rw [H.len]; exact h1
  exact ⟨xss[j], List.getElem?_eq_getElem h2, H.row j h _ hj (List.getElem?_eq_getElem h2)⟩
theorem Rws.set {base g n cap i p : Nat} {W : World} {hs : List Hdr} {xss : List (List Value)} {xs : List Value} (H : Rws base W hs xss) (ha : Aparts hs) (hi : hs[i]? = some (some ⟨g, 0, none⟩, n, cap)) (hx : xss[i]? = some xs) (u : Value) :
    Rws base (W.setCell ⟨g, p, none⟩ u) hs (xss.set i (xs.set p u)) := by
  refine ⟨by rw [List.length_set]; exact H.len, fun j h ys hj hy => ?_⟩
  by_cases hij : i = j
  · subst hij
    rw [hi] at hj
    cases hj
    rw [List.getElem?_set_self (List.getElem?_eq_some_iff.1 hx).1] at hy
    cases hy
    exact own_cset (H.row i _ xs hi hx) p u
  · rw [List.getElem?_set_ne hij] at hy
    exact own_setCell (H.row j h ys hj hy) (fun e => ha i j _ h hij hi hj g rfl e.symm) u
/-- A header that has elements: its block. -/
theorem own_form {base n : Nat} {W : World} {h : Hdr} {xs : List Value} (H : W.ownsRow base 72 3 (hv h) n xs) (hn : 0 < n) : ∃ g, h.1 = some ⟨g, 0, none⟩ ∧ base ≤ g ∧ ∃ cur, W.heap[g]? = some (.cells cur 72 (0, 0)) := by
  rcases H.2 with ⟨_, h0⟩ | ⟨g, cap, cur, hvv, hb, hk, _⟩
  · omega
  · unfold hv at hvv
    injection hvv with e1 e2 e3
    exact ⟨g, e1, hb, cur, hk⟩
/-- What apart knows of the world: the array of headers, its rows, and that nothing else has turned. -/
structure ApS (base bL : Nat) (hs : List Hdr) (W0 W : World) (xss : List (List Value)) : Prop where
  rws : Rws base W hs xss
  arr : W.heap[bL]? = some (.cells (hs.map hv).toArray 66 (0, 0))
  os : W.os = W0.os
  tape : W.tape = W0.tape
  output : W.output = W0.output
  size : W0.heap.size ≤ W.heap.size
  rest : ∀ k, k < W0.heap.size → (∀ (j : Nat) (h : Hdr), hs[j]? = some h → (hv h).ownBlock ≠ some k) → W.heap[k]? = W0.heap[k]?
theorem ApS.set {base bL g n cap i p : Nat} {W0 W : World} {hs : List Hdr} {xss : List (List Value)} {xs : List Value} (H : ApS base bL hs W0 W xss) (ha : Aparts hs) (hi : hs[i]? = some (some ⟨g, 0, none⟩, n, cap)) (hn : 0 < n) (hx : xss[i]? = some xs) (u : Value) :
    ApS base bL hs W0 (W.setCell ⟨g, p, none⟩ u) (xss.set i (xs.set p u)) := by
  obtain ⟨g', e, _, cur, hk⟩ := own_form (H.rws.row i _ xs hi hx) hn
  have e : g = g' := by simpa using e
  subst e
  refine ⟨H.rws.set ha hi hx u, blk_far H.arr (fun e2 => ?_) u, H.os, H.tape, H.output, by rw [show (W.setCell ⟨g, p, none⟩ u).heap.size = W.heap.size by simp [World.setCell]]; exact H.size, fun k hk0 hno => ?_⟩
  · have h1 := H.arr
    have e3 : bL = g := e2
    rw [e3, hk] at h1
    injection h1 with h1
    injection h1 with _ h1
    cases h1
  · rw [Below.heap_setCell W ⟨g, p, none⟩ u k (fun e3 => hno i _ hi (by rw [show k = g from e3]; rfl))]
    exact H.rest k hk0 hno
theorem ApS.cell {base bL : Nat} {W0 W : World} {hs : List Hdr} {xss : List (List Value)} (H : ApS base bL hs W0 W xss) {i : Nat} {h : Hdr} (hi : hs[i]? = some h) : W.cell? ⟨bL, i, none⟩ = some (hv h) := by
  refine (blk_cell H.arr i).trans ?_
  simp [hi]
theorem marks_step {n k i : Nat} {xs : List Value} (hl : xs.length = n * 3) (hk : k < n) (h : ∀ q u, q < k * 3 → xs[q]? = some u → u = mk1 i q) :
    ∀ q u, q < (k + 1) * 3 → (((xs.set (k * 3) (.int .i64 (-9))).set (k * 3 + 1) (.int .i64 (1000 + (i : Int)))).set (k * 3 + 2) (.string ⟨#[]⟩))[q]? = some u → u = mk1 i q := by
  intro q u hq hu
  rcases Nat.lt_or_ge q (k * 3) with c | c
  · rw [List.getElem?_set_ne (by omega), List.getElem?_set_ne (by omega), List.getElem?_set_ne (by omega)] at hu
    exact h q u c hu
  · have : q = k * 3 ∨ q = k * 3 + 1 ∨ q = k * 3 + 2 := by omega
    rcases this with rfl | rfl | rfl
    · rw [List.getElem?_set_ne (by omega), List.getElem?_set_ne (by omega), List.getElem?_set_self (by omega)] at hu
      cases hu
      unfold mk1
      rw [if_pos (by omega)]
    · rw [List.getElem?_set_ne (by omega), List.getElem?_set_self (by rw [List.length_set]; omega)] at hu
      cases hu
      unfold mk1
      rw [if_neg (by omega), if_pos (by omega)]
    · rw [List.getElem?_set_self (by rw [List.length_set, List.length_set]; omega)] at hu
      cases hu
      unfold mk1
      rw [if_neg (by omega), if_neg (by omega)]
theorem keptBut_block {W w : World} {may : MemPlace → Prop} (h : W.keptBut w may) {k : Nat} (hk : k < W.heap.size) (h1 : ∀ j, ¬ may (.cell k j)) (h2 : ¬ may (.map k)) : w.heap[k]? = W.heap[k]? := by
  have h3 := h.2.2 k hk
  have hkw : k < w.heap.size := Nat.lt_of_lt_of_le hk h.size
  rw [Array.getElem?_eq_getElem hk, Array.getElem?_eq_getElem hkw] at h3 ⊢
  generalize W.heap[k] = o at *
  generalize w.heap[k] = o' at *
  cases o with
  | cells c t fr =>
    cases o' with
    | cells c' t' fr' =>
      obtain ⟨e1, e2, e3, e4⟩ := h3
      subst e1 e2
      have : c' = c := Array.ext (by omega) (fun j hj1 hj2 => by
        have := e4 j (h1 j)
        rw [Array.getElem?_eq_getElem hj1, Array.getElem?_eq_getElem hj2] at this
        injection this)
      rw [this]
    | _ => cases h3
  | map es c =>
    cases o' with
    | map es' c' =>
      rcases h3 with h3 | ⟨e1, e2⟩
      · exact absurd h3 h2
      · subst e1 e2; rfl
    | _ => cases h3
  | _ => cases o' <;> first | exact h3 | cases h3
theorem own_same {W W' : World} {base size n : Nat} {e : TypeId} {v : Value} {xs : List Value} (h : W.ownsRow base e size v n xs) (hs : ∀ k, v.ownBlock = some k → W'.heap[k]? = W.heap[k]?) : W'.ownsRow base e size v n xs := by
  rcases h.2 with ⟨e1, e2⟩ | ⟨g, cap, cur, hv, hb, hk, r⟩
  · exact ⟨h.1, .inl ⟨e1, e2⟩⟩
  · exact ⟨h.1, .inr ⟨g, cap, cur, hv, hb, (hs g (by rw [hv]; rfl)).trans hk, r⟩⟩
/-- One append: both what becomes of the slice that came in, and that the value is a row of the call's own. -/
theorem append_both {P : Program} (w : World) {ops : Array Oper} {rest : List Oper} {o : Oper} {a : Act} {Q : Exit → Act → World → Prop} (hgd : o.guard = none) (s x : Operand) (t : TypeId)
    (ho : o.op = .call { callee := .builtin .append, args := #[s, x], argTypes := #[t, t] })
    {W : World} {e : TypeId} {size : Nat} {ao : Option Addr} {b off len cap base : Nat} {olds : List Value} (hc : Came W size ao b off len cap olds)
    (z : Value) (bytes : Nat) (ht : P.underlying t = some (.slice e)) (hinfo : (P.info? e).map (fun i => (i.zero, i.size, i.bytes)) = some (some z, size, bytes)) (hzs : z.cells.size = size) (hsz : 0 < size)
    {v : Value} {m : Nat} {ks : List Value} (hs : a.eval s = v) (h : Onto W e size ao b off len cap olds w v m ks) (hown : w.ownsRow base e size v (len + m) (olds ++ ks)) (hbase : base ≤ w.heap.size)
    (ad : Addr) (c : Nat) (news : List Value) (hx : a.eval x = .slice (some ad) 1 c) (hl : news.length = 1 * size) (hnews : ∀ j u, news[j]? = some u → w.cell? (ad.add j) = some u) (h1 : ∀ u ∈ news, u.oneCell' = true)
    (h63 : len + m + 1 ≤ maxLen) (hbytes : (len + m + 1) * bytes ≤ 140737488355328)
    (hK : ∀ v' w', Onto W e size ao b off len cap olds w' v' (m + 1) (ks ++ news) → w'.ownsRow base e size v' (len + m + 1) ((olds ++ ks) ++ news) → w'.tape = w.tape → wpList P ops Q rest (a.put o.dst v') w') : wpList P ops Q (o :: rest) a w := by
  refine wpList_plain hgd fun K hK' => ?_
  obtain ⟨i, hi, hz, hsize, hby⟩ := info_parts hinfo
  obtain ⟨v', w', hrun, r⟩ := run_append_onto (P := P) hc t o.type i z bytes ht hi hz hsize hby hzs hsz h ad c news hl hnews h1 h63 hbytes
  obtain ⟨v2, w2, hr2, ho2, hg2, _, _⟩ := run_append_own_at (P := P) w base t o.type e i z size bytes ht hi hz hsize hby hzs hsz v (len + m) _ hown ad 1 c news hl hnews h1 h63 hbytes hbase
  have e9 : v2 = v' ∧ w2 = w' := by
    rw [hrun] at hr2
    injection hr2 with q1 q2
    exact ⟨q1.symm, q2.symm⟩
  obtain ⟨rfl, rfl⟩ := e9
  unfold Oper.wp
  simp [execOp, ho, resolve, invoke, builtin, hs, hx, hrun, Result.andThen]
  exact hK' _ _ (hK v2 w2 r ho2 hg2.tape)
/-- The header's own row stands while elements are appended behind it. -/
theorem own_prefix {W w : World} {base n cap : Nat} {ao : Option Addr} {b : Nat} {xs ks : List Value} (h : W.ownsRow base 72 3 (.slice ao n cap) n xs) (hb : ∀ g, (Value.slice ao n cap).ownBlock = some g → g < W.heap.size ∧ b = g)
    (hk : W.keptBut w (fun p => ∃ j, j < ks.length ∧ j < (cap - n) * 3 ∧ p = .cell b (0 + n * 3 + j))) : w.ownsRow base 72 3 (.slice ao n cap) n xs := by
  rcases h.2 with ⟨e1, e2⟩ | ⟨g, cap', cur, hv, hbb, hkk, h1, h2, h3, h4⟩
  · exact ⟨h.1, .inl ⟨e1, e2⟩⟩
  · obtain ⟨hgl, rfl⟩ := hb g (by rw [hv]; rfl)
    have h9 := hk.2.2 b hgl
    have hwl : b < w.heap.size := Nat.lt_of_lt_of_le hgl hk.size
    rw [hkk, Array.getElem?_eq_getElem hwl] at h9
    generalize hoo : w.heap[b] = o' at h9
    cases o' with
    | cells c' t' fr' =>
      obtain ⟨e1, e2, e3, e4⟩ := h9
      subst e1 e2
      refine ⟨h.1, .inr ⟨b, cap', c', hv, hbb, by rw [Array.getElem?_eq_getElem hwl, hoo], h1, h2, by rw [e3]; exact h3, ?_⟩⟩
      rw [← h4]
      apply List.ext_getElem?
      intro j
      by_cases hj : j < n * 3
      · rw [List.getElem?_take_of_lt hj, List.getElem?_take_of_lt hj, Array.getElem?_toList, Array.getElem?_toList]
        exact e4 j (fun ⟨j', _, _, e⟩ => by injection e with _ e; omega)
      · rw [List.getElem?_eq_none (by rw [List.length_take]; omega), List.getElem?_eq_none (by rw [List.length_take]; omega)]
    | _ => cases h9
abbrev kS : Kd Hdr := Kd.scalar hv (fun _ => rfl)
theorem info66' : (Try.prog.info? 66).map (fun i => (i.zero, i.size, i.bytes)) = some (some (.slice none 0 0), 1, 24) := by kernel_rfl
/-- The long copies that have been made. -/
def LS (base n0 : Nat) (hs : List Hdr) (w : World) (ls : List Hdr) : Prop :=
  ∀ (j : Nat) (x : Hdr), ls[j]? = some x → ∃ h, hs[j]? = some h ∧ x.2.1 = h.2.1 + 70 ∧ ((hv x).ownBlock = (hv h).ownBlock ∨ ∃ b, (hv x).ownBlock = some b ∧ n0 ≤ b) ∧
    ∃ ys, w.ownsRow base 72 3 (hv x) (h.2.1 + 70) ys ∧ (∀ q u, q < h.2.1 * 3 → ys[q]? = some u → u = mk1 j q) ∧ ∀ q u, ys[h.2.1 * 3 + q]? = some u → u = mk2 j q
theorem news_at {W : World} {b : Nat} {p q r : Value} (h : W.heap[b]? = some (Obj.cells #[p, q, r] 72 (0, 0))) : ∀ (j : Nat) (u : Value), [p, q, r][j]? = some u → W.cell? ((⟨b, 0, none⟩ : Addr).add j) = some u := by
  intro j u hu
  rw [add_plain]
  refine (blk_cell h _).trans ?_
  match j with
  | 0 => exact hu
  | 1 => exact hu
  | 2 => exact hu
  | k + 3 => simp at hu
theorem marks2_step {i k : Nat} {ks : List Value} (hl : ks.length = k * 3) (h : ∀ q u, ks[q]? = some u → u = mk2 i q) : ∀ q u, (ks ++ [.int .i64 (-8), .int .i64 (500000 + (i : Int)), .string ⟨#[]⟩])[q]? = some u → u = mk2 i q := by
  intro q u hu
  rcases Nat.lt_or_ge q ks.length with c | c
  · rw [List.getElem?_append_left c] at hu
    exact h q u hu
  · rw [List.getElem?_append_right c] at hu
    have h9 := (List.getElem?_eq_some_iff.1 hu).1
    simp only [List.length_cons, List.length_nil] at h9
    have : q = k * 3 ∨ q = k * 3 + 1 ∨ q = k * 3 + 2 := by omega
    unfold mk2
    rcases this with rfl | rfl | rfl
    · rw [hl, Nat.sub_self] at hu
      cases hu
      rw [if_pos (by omega)]
    · rw [hl, show k * 3 + 1 - k * 3 = 1 by omega] at hu
      cases hu
      rw [if_neg (by omega), if_pos (by omega)]
    · rw [hl, show k * 3 + 2 - k * 3 = 2 by omega] at hu
      cases hu
      rw [if_neg (by omega), if_neg (by omega)]
theorem came_of {base : Nat} {W : World} {ao : Option Addr} {n cap : Nat} {xs : List Value} (h : W.ownsRow base 72 3 (.slice ao n cap) n xs) : Came W 3 ao ((ao.map (·.block)).getD 0) 0 n cap xs := by
  rcases h.2 with ⟨e1, e2⟩ | ⟨g, cap', cur, hvv, hbb, hkk, h1, h2, h3, h4⟩
  · injection e1 with e1 e3 e4
    subst e1 e3 e4
    exact ⟨Nat.le_refl _, fun h => absurd h (Nat.lt_irrefl _), fun h => absurd h (Nat.lt_irrefl _), h.1, fun j u hu => by
      have h9 := (List.getElem?_eq_some_iff.1 hu).1
      have := h.1; omega, fun j hj => by omega⟩
  · injection hvv with e1 e3 e4
    subst e1 e4
    refine ⟨h1, fun _ => rfl, fun _ => (Array.getElem?_eq_some_iff.1 hkk).1, h.1, fun j u hu => ?_, fun j hj => ⟨?_, blk_frozen hkk _⟩⟩
    · have h9 := (List.getElem?_eq_some_iff.1 hu).1
      have h10 := h.1
      rw [Nat.zero_add]
      rw [← hu]
      exact h.cellAt j (by omega)
    · have hlt : 0 + n * 3 + j < cur.size := by
        have : (cap - n) * 3 = cap * 3 - n * 3 := Nat.mul_sub_right_distrib _ _ _
        omega
      have := blk_cell hkk (0 + n * 3 + j)
      rw [Array.getElem?_eq_getElem hlt] at this
      show (W.cell? ⟨g, 0 + n * 3 + j, none⟩).isSome = true
      rw [this]; rfl
theorem own_ne_type {W : World} {base base' e e' size size' n n' : Nat} {v v' : Value} {xs xs' : List Value} (h : W.ownsRow base e size v n xs) (h' : W.ownsRow base' e' size' v' n' xs') (hne : e ≠ e') : ∀ k, v.ownBlock = some k → v'.ownBlock ≠ some k := by
  intro k hk hk'
  rcases h.2 with ⟨e1, _⟩ | ⟨g, cap, cur, hv, _, hg, _⟩
  · rw [e1] at hk; cases hk
  · rcases h'.2 with ⟨e1, _⟩ | ⟨g', cap', cur', hv', _, hg', _⟩
    · rw [e1] at hk'; cases hk'
    · rw [hv] at hk
      rw [hv'] at hk'
      have q1 : g = k := by injection hk
      have q2 : g' = k := by injection hk'
      subst q1 q2
      rw [hg] at hg'
      injection hg' with hg'
      injection hg' with _ hg'
      exact hne hg'
theorem own_block {W : World} {base e size n : Nat} {v : Value} {xs : List Value} (h : W.ownsRow base e size v n xs) : ∀ k, v.ownBlock = some k → base ≤ k ∧ k < W.heap.size := by
  intro k hk
  rcases h.2 with ⟨e1, _⟩ | ⟨g, cap, cur, hv, hb, hg, _⟩
  · rw [e1] at hk; cases hk
  · rw [hv] at hk
    have q1 : g = k := by injection hk
    subst q1
    exact ⟨hb, (Array.getElem?_eq_some_iff.1 hg).1⟩
/-- What apart knows stands over a step that turns none of its blocks. -/
theorem ApS.same {base bL : Nat} {W0 W W' : World} {hs : List Hdr} {xss : List (List Value)} (H : ApS base bL hs W0 W xss) (ho : W'.os = W.os) (ht : W'.tape = W.tape) (hu : W'.output = W.output) (hz : W.heap.size ≤ W'.heap.size) (hb0 : bL < W0.heap.size)
    (hrow : ∀ (j : Nat) (h : Hdr) (xs : List Value), hs[j]? = some h → xss[j]? = some xs → W'.ownsRow base 72 3 (hv h) h.2.1 xs)
    (hk : ∀ k, k < W0.heap.size → (∀ (j : Nat) (h : Hdr), hs[j]? = some h → (hv h).ownBlock ≠ some k) → W'.heap[k]? = W.heap[k]?) (hbl : ∀ (j : Nat) (h : Hdr), hs[j]? = some h → (hv h).ownBlock ≠ some bL) : ApS base bL hs W0 W' xss :=
  ⟨⟨H.rws.len, hrow⟩, (hk bL hb0 hbl).trans H.arr, ho.trans H.os, ht.trans H.tape, hu.trans H.output, Nat.le_trans H.size hz, fun k h1 h2 => (hk k h1 h2).trans (H.rest k h1 h2)⟩
theorem LS.same {base n0 : Nat} {hs ls : List Hdr} {w w' : World} (H : LS base n0 hs w ls) (hk : ∀ (j : Nat) (x : Hdr) k, ls[j]? = some x → (hv x).ownBlock = some k → w'.heap[k]? = w.heap[k]?) : LS base n0 hs w' ls := by
  intro j x hx
  obtain ⟨h, h1, h2, h3, ys, h4, h5, h6⟩ := H j x hx
  exact ⟨h, h1, h2, h3, ys, own_same h4 (fun k e => hk j x k hx e), h5, h6⟩
theorem LS.snoc {base n0 i : Nat} {hs ls : List Hdr} {w : World} {h x : Hdr} {xs ks : List Value} (H : LS base n0 hs w ls) (hi : hs[i]? = some h) (hl : ls.length = i) (hn : x.2.1 = h.2.1 + 70) (ha : (hv x).ownBlock = (hv h).ownBlock ∨ ∃ b, (hv x).ownBlock = some b ∧ n0 ≤ b)
    (ho : w.ownsRow base 72 3 (hv x) (h.2.1 + 70) (xs ++ ks)) (hxl : xs.length = h.2.1 * 3) (h1 : ∀ q u, xs[q]? = some u → u = mk1 i q) (h2 : ∀ q u, ks[q]? = some u → u = mk2 i q) : LS base n0 hs w (ls ++ [x]) := by
  intro j y hy
  rcases Nat.lt_or_ge j ls.length with c | c
  · rw [List.getElem?_append_left c] at hy
    exact H j y hy
  · rw [List.getElem?_append_right c] at hy
    have h9 := (List.getElem?_eq_some_iff.1 hy).1
    simp only [List.length_cons, List.length_nil] at h9
    obtain rfl : j = i := by omega
    rw [← hl, Nat.sub_self] at hy
    cases hy
    refine ⟨h, hi, hn, ha, xs ++ ks, ho, fun q u hq hu => ?_, fun q u hu => ?_⟩
    · rw [List.getElem?_append_left (by omega)] at hu
      exact h1 q u hu
    · rw [List.getElem?_append_right (by omega), show h.2.1 * 3 + q - xs.length = q by omega] at hu
      exact h2 q u hu
theorem C_oneS {W : World} {b : Nat} {x : Hdr} (h : W.heap[b]? = some (Obj.cells #[hv x] 66 (0, 0))) : kS.C W (some ⟨b, 0, none⟩) 1 [x] := by
  refine ⟨rfl, by decide, fun _ => ⟨⟨b, 0, none⟩, rfl, fun j p hj => ?_⟩⟩
  match j with
  | 0 =>
    simp at hj
    subst hj
    refine ⟨[hv x], rfl, rfl, fun k u hu => ?_⟩
    rw [add_plain]
    refine (blk_cell h _).trans ?_
    match k with
    | 0 => exact hu
    | k + 1 => simp at hu
  | j + 1 => simp at hj
theorem cells1 {W : World} {base g N cap k i : Nat} {ys : List Value} (ho : W.ownsRow base 72 3 (.slice (some ⟨g, 0, none⟩) N cap) N ys) (hk : k < N) (hm : ∀ q u, q < k * 3 + 3 → k * 3 ≤ q → ys[q]? = some u → u = mk1 i q) :
    W.cell? ⟨g, k * 3, none⟩ = some (.int .i64 (-9)) ∧ W.cell? ⟨g, k * 3 + 1, none⟩ = some (.int .i64 (1000 + (i : Int))) ∧ W.cell? ⟨g, k * 3 + 2, none⟩ = some (.string ⟨#[]⟩) := by
  have hl : ys.length = N * 3 := ho.1
  have e : ∀ q, q < k * 3 + 3 → k * 3 ≤ q → W.cell? ⟨g, q, none⟩ = some (mk1 i q) := fun q h1 h2 => by
    have hq : q < ys.length := by omega
    rw [ho.cellAt q (by omega), List.getElem?_eq_getElem hq, hm q _ h1 h2 (List.getElem?_eq_getElem hq)]
  refine ⟨(e _ (by omega) (by omega)).trans ?_, (e _ (by omega) (by omega)).trans ?_, (e _ (by omega) (by omega)).trans ?_⟩
  · unfold mk1; rw [if_pos (by omega)]
  · unfold mk1; rw [if_neg (by omega), if_pos (by omega)]
  · unfold mk1; rw [if_neg (by omega), if_neg (by omega)]
theorem cells2 {W : World} {base g N cap k i : Nat} {ys : List Value} (ho : W.ownsRow base 72 3 (.slice (some ⟨g, 0, none⟩) N cap) N ys) (hk : k < N) (n : Nat) (hn : n ≤ k) (hm : ∀ q u, ys[n * 3 + q]? = some u → u = mk2 i q) :
    W.cell? ⟨g, k * 3, none⟩ = some (.int .i64 (-8)) ∧ W.cell? ⟨g, k * 3 + 1, none⟩ = some (.int .i64 (500000 + (i : Int))) ∧ W.cell? ⟨g, k * 3 + 2, none⟩ = some (.string ⟨#[]⟩) := by
  have hl : ys.length = N * 3 := ho.1
  have e : ∀ q, q < k * 3 + 3 → k * 3 ≤ q → W.cell? ⟨g, q, none⟩ = some (mk2 i (q - n * 3)) := fun q h1 h2 => by
    have hq : q < ys.length := by omega
    have h9 := hm (q - n * 3) ys[q] (by rw [show n * 3 + (q - n * 3) = q by omega]; exact List.getElem?_eq_getElem hq)
    rw [ho.cellAt q (by omega), List.getElem?_eq_getElem hq, h9]
  refine ⟨(e _ (by omega) (by omega)).trans ?_, (e _ (by omega) (by omega)).trans ?_, (e _ (by omega) (by omega)).trans ?_⟩
  · unfold mk2; rw [if_pos (by omega)]
  · unfold mk2; rw [if_neg (by omega), if_pos (by omega)]
  · unfold mk2; rw [if_neg (by omega), if_neg (by omega)]
theorem cell_ofS {W : World} {base g n c : Nat} {xs : List Hdr} (h : kS.R 66 W base tru (.slice (some ⟨g, 0, none⟩) n c) xs) (i : Nat) (x : Hdr) (hx : xs[i]? = some x) : W.cell? ⟨g, i, none⟩ = some (hv x) := by
  have hr := Kd.R_reads' h
  have hi := (List.getElem?_eq_some_iff.1 hx).1
  obtain ⟨ad', e', hc⟩ := hr.2.2.2.2 (by omega)
  injection e' with e'
  subst e'
  obtain ⟨c, _, hk, hcell⟩ := hc i x hx
  have hk' : c = [hv x] := hk
  subst hk'
  have hq := hcell 0 _ rfl
  rwa [show kS.sz = 1 from rfl, Nat.mul_one, Nat.add_zero, add_plain] at hq
theorem ApS.drewN {base bL : Nat} {W0 W : World} {hs : List Hdr} {xss : List (List Value)} (H : ApS base bL hs W0 W xss) (m : Nat) : ApS base bL hs W0 (W.drewN m) xss :=
  ⟨⟨H.rws.len, fun j h xs a b => own_same (H.rws.row j h xs a b) (fun _ _ => rfl)⟩, H.arr, H.os, H.tape, H.output, H.size, H.rest⟩
theorem LS.drewN {base n0 : Nat} {hs ls : List Hdr} {w : World} (H : LS base n0 hs w ls) (m : Nat) : LS base n0 hs (w.drewN m) ls := H.same (fun _ _ _ _ _ => rfl)
attribute [local go_sem high] eqA72
set_option maxRecDepth 100000 in
set_option maxHeartbeats 4000000 in
theorem apart_any (base bL cL : Nat) (hs : List Hdr) (xss0 : List (List Value)) (W0 : World) (hm : hs.length ≤ 1000) (hA : ApS base bL hs W0 W0 xss0) (ha : Aparts hs) (hn : ∀ h ∈ hs, h.2.1 ≤ 4194304) (hb0 : base ≤ W0.heap.size) :
    Calls Try.prog 31 #[.slice (some ⟨bL, 0, none⟩) hs.length cL] W0 fun e w' => e = .returned (.bool true) ∧ w'.os = W0.os ∧ w'.tape = W0.tape ∧ w'.output = W0.output ∧ W0.heap.size ≤ w'.heap.size ∧ (∀ k, k < W0.heap.size → (∀ (j : Nat) (h : Hdr), hs[j]? = some h → (hv h).ownBlock ≠ some k) → w'.heap[k]? = W0.heap[k]?) := by
  have HA := Lib.hid hA
  have HAP := Lib.hid ha
  have HN := Lib.hid hn
  have HB0 : base ≤ W0.heap.size := hb0
  have HB9 : bL < W0.heap.size := (Array.getElem?_eq_some_iff.1 hA.arr).1
  have HBN : Hid (∀ (j : Nat) (h' : Hdr), hs[j]? = some h' → (hv h').ownBlock ≠ some bL) := fun j h' hj hk => by
    obtain ⟨xs, hx, ho⟩ := hA.rws.get hj
    rcases ho.2 with ⟨e1, _⟩ | ⟨g, cap, cur, hvv, _, hg, _⟩
    · rw [e1] at hk; cases hk
    · rw [hvv] at hk
      have q : g = bL := by injection hk
      subst q
      have h9 := hA.arr
      rw [hg] at h9
      injection h9 with h9
      injection h9 with _ h9
      cases h9
  clear hA ha hn hb0
  go_enter Try.func31, Try.ntmps31
  have tok : True := trivial
  go_wp2_with fail
  go_loopw [3] (fun v w' => ∃ (i : Nat) (xss : List (List Value)), v = .int .i64 (i : Int) ∧ i ≤ hs.length ∧ Hid (ApS base bL hs W0 w' xss) ∧ Hid (∀ j xs, j < i → xss[j]? = some xs → ∀ q u, xs[q]? = some u → u = mk1 j q)) (fun v _ => hs.length - (intOf v).toNat)
  case atStart => exact ⟨0, xss0, rfl, Nat.zero_le _, HA, fun j xs h => by omega⟩
  case round =>
    obtain ⟨i, xss, rfl, hi, HS, HM⟩ := hrel
    by_cases hil : i < hs.length
    · have hib : decide ((i : Int) < (hs.length : Int)) = true := decide_eq_true (by omega)
      have hih : hs[i]? = some hs[i] := List.getElem?_eq_getElem hil
      have HHN := HN.out hs[i] (List.getElem_mem hil)
      generalize hs[i] = h at *
      obtain ⟨ao, n, cap⟩ := h
      have HIH := Lib.hid hih
      have hi0 : (0 : Int) ≤ (i : Int) := Int.natCast_nonneg _
      have hi1 : (i : Int) < (hs.length : Int) := by omega
      have hiw : IntKind.i64.wrap ((i : Int) + 1) = (i : Int) + 1 := IntWalk.i64_in _ (by omega)
      have hin : n ≤ 4194304 := HHN
      clear hih HHN
      go_wp2_with fail
      go_loopw [4] (fun v w' => ∃ (k : Nat) (xss : List (List Value)), v = .int .i64 (k : Int) ∧ k ≤ n ∧ Hid (ApS base bL hs W0 w' xss) ∧ Hid (∀ j xs, j < i → xss[j]? = some xs → ∀ q u, xs[q]? = some u → u = mk1 j q) ∧ Hid (∀ xs, xss[i]? = some xs → ∀ q u, q < k * 3 → xs[q]? = some u → u = mk1 i q)) (fun v _ => n - (intOf v).toNat)
      case atStart => exact ⟨0, xss, rfl, Nat.zero_le _, HS, HM, fun xs _ q u h => by omega⟩
      case round =>
        clear HS HM
        obtain ⟨k, xss, rfl, hk, HS, HM, HK⟩ := hrel
        have hce : wr.cell? ⟨bL, i, none⟩ = some (.slice ao n cap) := HS.out.cell HIH.out
        by_cases hkn : k < n
        · have hkb : decide ((k : Int) < (n : Int)) = true := decide_eq_true (by omega)
          obtain ⟨xs, hxs, hown⟩ := HS.out.rws.get HIH.out
          obtain ⟨g, eg, hbg, cur, hkc⟩ := own_form hown (by show 0 < n; omega)
          have eg : ao = some ⟨g, 0, none⟩ := eg
          subst eg
          have hk0 : (0 : Int) ≤ (k : Int) := Int.natCast_nonneg _
          have hk1 : (k : Int) < (n : Int) := by omega
          have hkw : IntKind.i64.wrap ((k : Int) + 1) = (k : Int) + 1 := IntWalk.i64_in _ (by omega)
          have hiw2 : IntKind.i64.wrap (1000 + (i : Int)) = 1000 + (i : Int) := IntWalk.i64_in _ (by omega)
          have f0 : wr.frozen? ⟨g, k * 3, none⟩ = false := blk_frozen hkc _
          have f1 : wr.frozen? ⟨g, k * 3 + 1, none⟩ = false := blk_frozen hkc _
          have f2 : wr.frozen? ⟨g, k * 3 + 2, none⟩ = false := blk_frozen hkc _
          have hxl : xs.length = n * 3 := hown.1
          obtain ⟨v0, c0⟩ : ∃ u, wr.cell? ⟨g, k * 3, none⟩ = some u := ⟨xs[k * 3], (hown.cellAt (k * 3) (show k * 3 < n * 3 by omega)).trans (List.getElem?_eq_getElem (by omega))⟩
          obtain ⟨v1, c1⟩ : ∃ u, wr.cell? ⟨g, k * 3 + 1, none⟩ = some u := ⟨xs[k * 3 + 1], (hown.cellAt (k * 3 + 1) (show k * 3 + 1 < n * 3 by omega)).trans (List.getElem?_eq_getElem (by omega))⟩
          obtain ⟨v2, c2⟩ : ∃ u, wr.cell? ⟨g, k * 3 + 2, none⟩ = some u := ⟨xs[k * 3 + 2], (hown.cellAt (k * 3 + 2) (show k * 3 + 2 < n * 3 by omega)).trans (List.getElem?_eq_getElem (by omega))⟩
          have HS1 := Lib.hid (((HS.out.set HAP.out HIH.out (by omega) hxs (p := k * 3) (.int .i64 (-9))).set HAP.out HIH.out (by omega) (List.getElem?_set_self (List.getElem?_eq_some_iff.1 hxs).1) (p := k * 3 + 1) (.int .i64 (1000 + (i : Int)))).set HAP.out HIH.out (by omega) (List.getElem?_set_self (by rw [List.length_set]; exact (List.getElem?_eq_some_iff.1 hxs).1)) (p := k * 3 + 2) (.string ⟨#[]⟩))
          have HXS := Lib.hid hxs
          clear hxs hown hkc
          go_wp2_with fail
          go_roundw
          case rel =>
            refine ⟨k + 1, _, by rw [Int.natCast_add]; rfl, hkn, HS1, fun j ys hj hy q u hu => ?_, fun ys hy q u hq hu => ?_⟩
            · rw [List.getElem?_set_ne (by omega), List.getElem?_set_ne (by omega), List.getElem?_set_ne (by omega)] at hy
              exact HM.out j ys hj hy q u hu
            · rw [List.getElem?_set_self (by rw [List.length_set, List.length_set]; exact (List.getElem?_eq_some_iff.1 HXS.out).1)] at hy
              cases hy
              exact marks_step hxl hkn (HK.out xs HXS.out) q u hq hu
          case measure => simp only [intOf]; omega
        · have hkb : decide ((k : Int) < (n : Int)) = false := decide_eq_false (by omega)
          go_wp2_with fail
          go_roundw
          case rel => exact ⟨i + 1, xss, by rw [Int.natCast_add]; rfl, by omega, HS, fun j xs hj hx q u hu => by
            rcases Nat.lt_or_ge j i with c | c
            · exact HM.out j xs c hx q u hu
            · obtain rfl : j = i := by omega
              obtain ⟨ys, hy, ho⟩ := HS.out.rws.get HIH.out
              rw [hx] at hy; cases hy
              have h9 := (List.getElem?_eq_some_iff.1 hu).1
              have h10 : xs.length = n * 3 := ho.1
              exact HK.out xs hx q u (by have : k = n := by omega
                                         subst this; omega) hu⟩
          case measure => simp only [intOf]; omega
    · have hib : decide ((i : Int) < (hs.length : Int)) = false := decide_eq_false (by omega)
      obtain rfl : i = hs.length := by omega
      go_wp2_with fail
      go_loopw [5, 6] (fun v c w' => ∃ (i : Nat) (ls : List Hdr), c = .int .i64 (i : Int) ∧ i ≤ hs.length ∧ ls.length = i ∧ Hid (ApS base bL hs W0 w' xss) ∧ Hid (kS.R 66 w' W0.heap.size tru v ls) ∧ Hid (LS base W0.heap.size hs w' ls)) (fun _ c _ => hs.length - (intOf c).toNat)
      case atStart => exact ⟨0, [], rfl, Nat.zero_le _, rfl, HS, Kd.R_nil _ _ _ _ _, fun j x h => by simp at h⟩
      case round =>
        clear HS
        obtain ⟨i, ls, rfl, hi2, hll, HS, HO, HLS⟩ := hrel
        by_cases hil2 : i < hs.length
        · have hib2 : decide ((i : Int) < (hs.length : Int)) = true := decide_eq_true (by omega)
          have hih : hs[i]? = some hs[i] := List.getElem?_eq_getElem hil2
          have HHN := HN.out hs[i] (List.getElem_mem hil2)
          generalize hs[i] = h at *
          obtain ⟨ao, n, cap⟩ := h
          have HIH := Lib.hid hih
          have hi0 : (0 : Int) ≤ (i : Int) := Int.natCast_nonneg _
          have hi1 : (i : Int) < (hs.length : Int) := by omega
          have hiw : IntKind.i64.wrap ((i : Int) + 1) = (i : Int) + 1 := IntWalk.i64_in _ (by omega)
          have hiw2 : IntKind.i64.wrap (500000 + (i : Int)) = 500000 + (i : Int) := IntWalk.i64_in _ (by omega)
          have hin : n ≤ 4194304 := HHN
          have hce : wr.cell? ⟨bL, i, none⟩ = some (.slice ao n cap) := HS.out.cell HIH.out
          obtain ⟨xs, hxs, hown⟩ := HS.out.rws.get HIH.out
          have hown : wr.ownsRow base 72 3 (.slice ao n cap) n xs := hown
          have HXS := Lib.hid hxs
          have HOW := Lib.hid hown
          have HCM := Lib.hid (came_of hown)
          have hszW : W0.heap.size ≤ wr.heap.size := HS.out.size
          clear hih HHN hxs hown
          go_wp2_with fail
          obtain ⟨Wi, hWi⟩ : ∃ Wi, Wi = wr := ⟨_, rfl⟩
          subst hWi
          go_loopw [7, 8] (fun x c w' => ∃ (k : Nat) (ks : List Value), c = .int .i64 (k : Int) ∧ k ≤ 70 ∧ Hid (Onto Wi 72 3 ao ((ao.map (·.block)).getD 0) 0 n cap xs w' x k ks) ∧ Hid (∀ q u, ks[q]? = some u → u = mk2 i q) ∧ Hid (w'.tape = Wi.tape) ∧ Hid (w'.ownsRow base 72 3 x (n + k) (xs ++ ks)) ∧ ks.length = k * 3) (fun _ c _ => 70 - (intOf c).toNat)
          case atStart => exact ⟨0, [], rfl, Nat.zero_le _, Onto.start HCM.out, fun q u h => by simp at h, rfl, Lib.hid (by rw [List.append_nil]; exact HOW.out), rfl⟩
          case round =>
            obtain ⟨k, ks, rfl, hk, HON, HMK, HTP, HOX, hkl⟩ := hrel
            by_cases hkn : k < 70
            · have hkb : decide ((k : Int) < 70) = true := decide_eq_true (by omega)
              have hkw : IntKind.i64.wrap ((k : Int) + 1) = (k : Int) + 1 := IntWalk.i64_in _ (by omega)
              have hbase : base ≤ wr.heap.size := by have := HON.out.kept.size; have := HB0; omega
              have HONa := Lib.hid (HON.out.alloc HCM.out (.cells #[.int .i64 (-8), .int .i64 (500000 + (i : Int)), .string ⟨#[]⟩] 72))
              have HOXa := Lib.hid (HOX.out.alloc (.cells #[.int .i64 (-8), .int .i64 (500000 + (i : Int)), .string ⟨#[]⟩] 72))
              have HLa := Lib.hid (blk_new wr (.cells #[.int .i64 (-8), .int .i64 (500000 + (i : Int)), .string ⟨#[]⟩] 72))
              have hba : base ≤ (wr.alloc (.cells #[.int .i64 (-8), .int .i64 (500000 + (i : Int)), .string ⟨#[]⟩] 72)).heap.size := by rw [World.size_alloc]; omega
              go_wp2_with ((with_reducible refine gate_builtin (b := .append) (xs := #[.tmp 49, .tmp 53]) rfl ?_); at_builtin; refine append_both (P := Try.prog) _ rfl (.tmp 49) (.tmp 53) 66 rfl HCM.out (.agg #[.int .i64 0, .int .i64 0, .string ⟨#[]⟩]) 32 Try.underlying66 info72' rfl (by decide) rfl HONa.out HOXa.out hba ⟨wr.heap.size, 0, none⟩ 1 [.int .i64 (-8), .int .i64 (500000 + (i : Int)), .string ⟨#[]⟩] rfl rfl (news_at HLa.out) (by simp [Value.oneCell']) (by simp only [maxLen]; omega) (by omega) ?_; intro v1 w1 hon1 hox1 htp1)
              have HON1 := Lib.hid hon1
              have HOX1 := Lib.hid hox1
              have HTP1 : Hid (w1.tape = Wi.tape) := htp1.trans HTP.out
              clear hon1 hox1 htp1
              go_wp2_with fail
              go_roundw
              case rel => exact ⟨k + 1, _, by rw [Int.natCast_add]; rfl, hkn, HON1, fun q u hu => marks2_step hkl HMK.out q u hu, HTP1, Lib.hid (by rw [← List.append_assoc]; exact HOX1.out), by simp [hkl]; omega⟩
              case measure => simp only [intOf]; omega
            · have hkb : decide ((k : Int) < 70) = false := decide_eq_false (by omega)
              obtain rfl : k = 70 := by omega
              have hkept := HON.out.kept
              have hKB : ∀ k, k < Wi.heap.size → (Value.slice ao n cap).ownBlock ≠ some k → wr.heap[k]? = Wi.heap[k]? := fun k hk hno => keptBut_block hkept hk (by
                rintro j' ⟨j, _, hj, e⟩
                injection e with e1
                have hcp : 0 < cap := by
                  rcases Nat.eq_zero_or_pos cap with c | c
                  · subst c; omega
                  · exact c
                have h9 := HCM.out.addr hcp
                rw [h9] at e1 hno
                exact hno (by rw [e1]; rfl)) (by rintro ⟨j, _, _, e⟩; cases e)
              obtain ⟨g, cp, ev, hbg, hgl⟩ := HOX.out.form (by omega)
              subst ev
              have hXW := Lib.hid (show wr.ownsRow base 72 3 (.slice ao n cap) n xs from own_prefix HOW.out (fun g' hg' => by
                have h9 := own_block HOW.out g' hg'
                refine ⟨h9.2, ?_⟩
                cases ao with
                | none => cases hg'
                | some a =>
                  have h10 : cap ≠ 0 → a = ⟨a.block, 0, none⟩ := fun hc => by
                    have := HCM.out.addr (Nat.pos_of_ne_zero hc)
                    simpa using this
                  show a.block = g'
                  rcases HOW.out.2 with ⟨e1, _⟩ | ⟨g2, cap2, cur2, hv2, _⟩
                  · cases e1
                  · injection hv2 with hv2
                    injection hv2 with hv2
                    subst hv2
                    injection hg') hkept)
              have hal : (Value.slice (some ⟨g, 0, none⟩) (n + 70) cp).ownBlock = (Value.slice ao n cap).ownBlock ∨ ∃ b, (Value.slice (some ⟨g, 0, none⟩) (n + 70) cp).ownBlock = some b ∧ Wi.heap.size ≤ b := by
                rcases HON.out.val with ⟨_, e⟩ | ⟨_, e⟩
                · injection e with e1
                  rw [← e1]
                  refine .inl ?_
                  rfl
                · exact .inr ⟨g, rfl, (own_block e g rfl).1⟩
              have hbl0 : bL < W0.heap.size := HB9
              have hApn : ∀ (j : Nat) (h' : Hdr), j ≠ i → hs[j]? = some h' → ∀ k, (hv h').ownBlock = some k → (Value.slice ao n cap).ownBlock ≠ some k := fun j h' hj hh k hk => HAP.out j i h' _ hj hh HIH.out k hk
              have HS2 : Hid (ApS base bL hs W0 wr xss) := HS.out.same hkept.1 HTP.out hkept.2.1 hkept.size hbl0 (fun j h' ys hj hy => by
                by_cases hji : j = i
                · subst hji
                  rw [HIH.out] at hj; cases hj
                  rw [HXS.out] at hy; cases hy
                  exact hXW.out
                · have h9 := HS.out.rws.row j h' ys hj hy
                  exact own_same h9 (fun k hk => hKB k (own_block h9 k hk).2 (hApn j h' hji hj k hk))) (fun k hk hno => hKB k (by omega) (hno i _ HIH.out)) (fun j h' hj hk => HBN.out j h' hj hk)
              have hOwl := Kd.own_of_R HO.out
              have HO2 : Hid (kS.R 66 wr W0.heap.size tru u5 ls) := Kd.R_of_own (own_same hOwl (fun k hk => hKB k (own_block hOwl k hk).2 (own_ne_type hOwl HOW.out (by decide) k hk))) (fun _ _ => trivial)
              have HLS2 : Hid (LS base W0.heap.size hs wr ls) := HLS.out.same (fun j x k hx hk => by
                obtain ⟨h', h1, h2, h3, ys, h4, h5, h6⟩ := HLS.out j x hx
                refine hKB k (own_block h4 k hk).2 (fun e => ?_)
                have hjl := (List.getElem?_eq_some_iff.1 hx).1
                rcases h3 with h3 | ⟨b, h3, h7⟩
                · exact hApn j h' (by omega) h1 k (by rw [← h3]; exact hk) e
                · rw [h3] at hk
                  have q : b = k := by injection hk
                  subst q
                  have := (own_block (HA.out.rws.row i _ _ HIH.out (List.getElem?_eq_getElem (by rw [HA.out.rws.len]; exact hil2))) b e).2
                  omega)
              have HXL := Lib.hid (show wr.ownsRow base 72 3 (hv (some ⟨g, 0, none⟩, n + 70, cp)) (n + 70) (xs ++ ks) from HOX.out)
              have HAL := Lib.hid hal
              have hsz3 : W0.heap.size ≤ wr.heap.size := by have := hkept.size; omega
              clear hkept hKB hXW hal hApn hOwl HON HOX HOW HCM HTP HS HO HLS
              have HOa := Lib.hid (Kd.R_alloc HO2.out (.cells #[.slice (some ⟨g, 0, none⟩) (n + 70) cp] 66))
              have HLa := Lib.hid (blk_new wr (.cells #[.slice (some ⟨g, 0, none⟩) (n + 70) cp] 66))
              have hsa : W0.heap.size ≤ (wr.alloc (.cells #[.slice (some ⟨g, 0, none⟩) (n + 70) cp] 66)).heap.size := by rw [World.size_alloc]; omega
              have hbo : (ls.length + 1) * 24 ≤ 140737488355328 := by omega
              go_wp2_with ((with_reducible refine gate_builtin (b := .append) (xs := #[.tmp 55, .tmp 57]) rfl ?_); at_builtin; refine Kd.R_append_rows kS (w0 := wr.alloc (.cells #[.slice (some ⟨g, 0, none⟩) (n + 70) cp] 66)) W0.heap.size rfl (.tmp 55) (.tmp 57) 74 66 (.slice none 0 0) 24 rfl Try.underlying74 info66' rfl (by decide) (by omega) _ ls [((some ⟨g, 0, none⟩, n + 70, cp) : Hdr)] (some ⟨wr.heap.size, 0, none⟩) 1 1 tru (fun _ => False) rfl rfl HOa.out (C_oneS HLa.out) (fun _ _ h => h) (fun _ h => h.elim) (fun _ _ => trivial) (Below.refl _ _) hsa hbo ?_; intro v1 w3 ho3 hb3 hg3 hat3)
              have HO3 := Lib.hid ho3
              have hOwl := Kd.own_of_R HO2.out
              have hB : ∀ k, k < wr.heap.size → u5.ownBlock ≠ some k → w3.heap[k]? = wr.heap[k]? := fun k hk hno => (hg3.block k (by rw [World.size_alloc]; omega) (fun e => hno e.symm)).trans (Below.heap_alloc wr _ k hk)
              have hxl : xs.length = n * 3 := by
                have h9 : xs.length = ((ao, n, cap) : Hdr).2.1 * 3 := (HS2.out.rws.row i _ xs HIH.out HXS.out).1
                exact h9
              have HS3 : Hid (ApS base bL hs W0 w3 xss) := HS2.out.same hg3.os hg3.tape hg3.output (by have := hg3.size; rw [World.size_alloc] at this; omega) hbl0 (fun j h' ys hj hy => by
                  have h9 := HS2.out.rws.row j h' ys hj hy
                  exact own_same h9 (fun k hk => hB k (own_block h9 k hk).2 (own_ne_type h9 hOwl (by decide) k hk))) (fun k hk hno => hB k (by omega) (fun e => by have := (own_block hOwl k e).1; omega)) (fun j h' hj hk => HBN.out j h' hj hk)
              have HLS3 : Hid (LS base W0.heap.size hs w3 (ls ++ [((some ⟨g, 0, none⟩, n + 70, cp) : Hdr)])) := by
                refine LS.snoc (xs := xs) (ks := ks) (HLS2.out.same (fun j x k hx hk => by
                    obtain ⟨h', h1, h2, h3, ys, h4, h5, h6⟩ := HLS2.out j x hx
                    exact hB k (own_block h4 k hk).2 (own_ne_type h4 hOwl (by decide) k hk))) HIH.out hll rfl ?_ (own_same HXL.out (fun k hk => hB k (own_block HXL.out k hk).2 (own_ne_type HXL.out hOwl (by decide) k hk))) hxl (HM.out i xs hil2 HXS.out) HMK.out
                rcases HAL.out with h1 | ⟨b, h1, h2⟩
                · exact .inl h1
                · exact .inr ⟨b, h1, Nat.le_trans hszW h2⟩
              clear ho3 hb3 hg3 hat3 hB hOwl
              go_roundw
              case rel => exact ⟨i + 1, ls ++ [((some ⟨g, 0, none⟩, n + 70, cp) : Hdr)], by rw [Int.natCast_add]; rfl, hil2, by rw [List.length_append, hll]; rfl, HS3, HO3, HLS3⟩
              case measure => simp only [intOf]; omega
        · have hib2 : decide ((i : Int) < (hs.length : Int)) = false := decide_eq_false (by omega)
          have hle1 : ls.length ≤ hs.length := by omega
          have hle2 : hs.length ≤ ls.length := by omega
          clear hll
          go_wp2_with fail
          go_loopw [9] (fun c w' => ∃ i : Nat, c = .int .i64 (i : Int) ∧ i ≤ hs.length ∧ Hid (ApS base bL hs W0 w' xss) ∧ Hid (kS.R 66 w' W0.heap.size tru u5 ls) ∧ Hid (LS base W0.heap.size hs w' ls)) (fun c _ => hs.length - (intOf c).toNat)
          case atStart => exact ⟨0, rfl, Nat.zero_le _, HS, HO, HLS⟩
          case round =>
            clear HS HO HLS
            obtain ⟨i3, rfl, hi3, HS, HO, HLS⟩ := hrel
            by_cases hil3 : i3 < hs.length
            · have hib3 : decide ((i3 : Int) < (hs.length : Int)) = true := decide_eq_true (by omega)
              have hi0 : (0 : Int) ≤ (i3 : Int) := Int.natCast_nonneg _
              have hi1 : (i3 : Int) < (hs.length : Int) := by omega
              have hiw : IntKind.i64.wrap ((i3 : Int) + 1) = (i3 : Int) + 1 := IntWalk.i64_in _ (by omega)
              have hiw2 : IntKind.i64.wrap (500000 + (i3 : Int)) = 500000 + (i3 : Int) := IntWalk.i64_in _ (by omega)
              have hiw3 : IntKind.i64.wrap (1000 + (i3 : Int)) = 1000 + (i3 : Int) := IntWalk.i64_in _ (by omega)
              obtain ⟨gl, cpl, ev, _, _, _, _⟩ := Kd.R_form HO.out (by omega)
              subst ev
              have hxi : ls[i3]? = some (ls[i3]'(by omega)) := List.getElem?_eq_getElem (by omega)
              generalize ls[i3]'(by omega) = x at hxi
              obtain ⟨h, hih, hx70, _, ys, hoy, hm1, hm2⟩ := HLS.out i3 x hxi
              obtain ⟨gx, ex, _, _⟩ := own_form hoy (by omega)
              obtain ⟨xa, xn, xc⟩ := x
              obtain ⟨ao, n, cap⟩ := h
              have ex : xa = some ⟨gx, 0, none⟩ := ex
              have hx70 : xn = n + 70 := hx70
              subst ex hx70
              have hin : n ≤ 4194304 := HN.out _ (List.mem_of_getElem? hih)
              have HIH := Lib.hid hih
              have HXI := Lib.hid hxi
              have HM1 := Lib.hid hm1
              have HM2 := Lib.hid hm2
              have hll3 : (i3 : Int) < (ls.length : Int) := by omega
              clear hih hxi hm1 hm2 hoy
              go_wp2_with fail
              go_loopw [10] (fun c w' => ∃ k : Nat, c = .int .i64 (k : Int) ∧ k ≤ n + 70 ∧ Hid (ApS base bL hs W0 w' xss) ∧ Hid (kS.R 66 w' W0.heap.size tru (.slice (some ⟨gl, 0, none⟩) ls.length cpl) ls) ∧ Hid (LS base W0.heap.size hs w' ls)) (fun c _ => n + 70 - (intOf c).toNat)
              case atStart => exact ⟨0, rfl, Nat.zero_le _, HS, HO, HLS⟩
              case round =>
                clear HS HO HLS
                obtain ⟨k, rfl, hk, HS, HO, HLS⟩ := hrel
                have hcL : wr.cell? ⟨bL, i3, none⟩ = some (.slice ao n cap) := HS.out.cell HIH.out
                have hcG : wr.cell? ⟨gl, i3, none⟩ = some (.slice (some ⟨gx, 0, none⟩) (n + 70) xc) := cell_ofS HO.out i3 _ HXI.out
                by_cases hkn : k < n + 70
                · have hkb : decide ((k : Int) < (n : Int) + 70) = true := decide_eq_true (by omega)
                  have hk0 : (0 : Int) ≤ (k : Int) := Int.natCast_nonneg _
                  have hk1 : (k : Int) < (n : Int) + 70 := by omega
                  have hkw : IntKind.i64.wrap ((k : Int) + 1) = (k : Int) + 1 := IntWalk.i64_in _ (by omega)
                  obtain ⟨h', hih', _, _, ys', hoy', hm1', hm2'⟩ := HLS.out i3 _ HXI.out
                  rw [HIH.out] at hih'
                  cases hih'
                  have hoy2 : wr.ownsRow base 72 3 (.slice (some ⟨gx, 0, none⟩) (n + 70) xc) (n + 70) ys' := hoy'
                  by_cases hkm : k < n
                  · have hkc : decide ((k : Int) < (n : Int)) = true := decide_eq_true (by omega)
                    have hkd : decide ((n : Int) ≤ (k : Int)) = false := decide_eq_false (by omega)
                    have hk2 : (k : Int) < (n : Int) := by omega
                    have hke : decide (n ≤ k) = false := decide_eq_false (by omega)
                    have hkf : decide (k < n) = true := decide_eq_true hkm
                    obtain ⟨xs, hxs, hown⟩ := HS.out.rws.get HIH.out
                    obtain ⟨gh, eg, _, _⟩ := own_form hown (show 0 < n by omega)
                    have eg : ao = some ⟨gh, 0, none⟩ := eg
                    subst eg
                    have hown2 : wr.ownsRow base 72 3 (.slice (some ⟨gh, 0, none⟩) n cap) n xs := hown
                    obtain ⟨a0, a1, a2⟩ := cells1 (i := i3) hown2 hkm (fun q u h1 h2 hu => HM.out i3 xs hil3 hxs q u hu)
                    obtain ⟨b0, b1, b2⟩ := cells1 (i := i3) hoy2 hkn (fun q u h1 h2 hu => hm1' q u (by show q < n * 3; omega) hu)
                    clear hm1' hm2' hoy' hoy2 hown hown2 hxs
                    go_wp2_with fail
                    refine wp_region_quiet_lit (by kernel_rfl) (by kernel_rfl) ?_
                    repeat (go_big_quiet_step (fail))
                    refine wpQuiet_nil ?_
                    intro _ hw'
                    obtain ⟨nq, hw''⟩ := hw'
                    subst hw''
                    go_wp2_with fail
                    go_roundw
                    case rel => exact ⟨k + 1, by rw [Int.natCast_add]; rfl, hkn, Lib.hid (HS.out.drewN nq), Lib.hid (Kd.R_drewN HO.out nq), Lib.hid (HLS.out.drewN nq)⟩
                    case measure => simp only [intOf]; omega
                  · have hkc : decide ((k : Int) < (n : Int)) = false := decide_eq_false (by omega)
                    have hkd : decide ((n : Int) ≤ (k : Int)) = true := decide_eq_true (by omega)
                    have hke : decide (n ≤ k) = true := decide_eq_true (by omega)
                    have hkf : decide (k < n) = false := decide_eq_false hkm
                    obtain ⟨b0, b1, b2⟩ := cells2 (i := i3) hoy2 hkn n (by omega) hm2'
                    clear hm1' hm2' hoy' hoy2
                    go_wp2_with fail
                    refine wp_region_quiet_lit (by kernel_rfl) (by kernel_rfl) ?_
                    repeat (go_big_quiet_step (fail))
                    refine wpQuiet_nil ?_
                    intro _ hw'
                    obtain ⟨nq, hw''⟩ := hw'
                    subst hw''
                    go_wp2_with fail
                    go_roundw
                    case rel => exact ⟨k + 1, by rw [Int.natCast_add]; rfl, hkn, Lib.hid (HS.out.drewN nq), Lib.hid (Kd.R_drewN HO.out nq), Lib.hid (HLS.out.drewN nq)⟩
                    case measure => simp only [intOf]; omega
                · have hkb : decide ((k : Int) < (n : Int) + 70) = false := decide_eq_false (by omega)
                  go_wp2_with fail
                  go_roundw
                  case rel => exact ⟨i3 + 1, by rw [Int.natCast_add]; rfl, hil3, HS, HO, HLS⟩
                  case measure => simp only [intOf]; omega
            · have hib3 : decide ((i3 : Int) < (hs.length : Int)) = false := decide_eq_false (by omega)
              go_wp2_with fail
              go_ret
              exact ⟨rfl, HS.out.os, HS.out.tape, HS.out.output, HS.out.size, HS.out.rest⟩
end Paint
end Go.Proofs.Ytcijanmckhlpiaa
