import Derived.Test.YtcijanmckhlpiaaPlaceData
namespace Go.Proofs.Ytcijanmckhlpiaa
open Go.RowKit Go.Proofs.YtcijanmckhlpiaaW.PrintWords Go.Proofs.YtcijanmckhlpiaaW.PrintLast Go.Proofs.YtcijanmckhlpiaaW.PrintMore Go.Proofs.Ytcijanmckhlpiaa.PGrammarPlaces
set_option linter.unusedVariables false
set_option linter.unusedSimpArgs false

/-- A row of scalars owns nothing but its own block. -/
theorem R_sc_ok {α : Type} {enc : α → Value} {h1 : ∀ x, (enc x).oneCell' = true} {e base : Nat} {ok ok' : Nat → Prop} {W : World} {v : Value} {xs : List α} (h : (Kd.scalar enc h1).R e W base ok v xs) (h0 : ∀ k, v.ownBlock = some k → ok' k) : (Kd.scalar enc h1).R e W base ok' v xs := ⟨h0, h.2⟩
theorem R_sc_grown {α : Type} {enc : α → Value} {h1 : ∀ x, (enc x).oneCell' = true} {e base : Nat} {W W1 : World} {v : Value} {r : Option Nat} {xs : List α} (h : (Kd.scalar enc h1).R e W base tru v xs) (hg : W.grownBy W1 r) (hr : ∀ k, v.ownBlock = some k → r ≠ some k) : (Kd.scalar enc h1).R e W1 base tru v xs :=
  R_sc_ok (Kd.R_grown (R_sc_ok h (ok' := fun k => some k ≠ r) (fun k hk e => hr k hk e.symm)) hg (fun k hk => hk)) (fun _ _ => trivial)
/-- The state of the law's walk: the two boxes, the box of s, the three rows of headers, and what mine's rows hold. -/
structure PI (w : World) (spc fc : Array Value) (sb : Nat) (m0 m1 m2 m3 m4 m5 m6 m7 : Value) (um uw un : Value) (hs : List Hd) (ws : List Oh) (ns : List Hd) (rows : List (List Int)) (i : Nat) (W : World) : Prop where
  below : Below w.heap.size w W
  b1 : W.heap[w.heap.size]? = some (Obj.cells spc 35 (0, 0))
  b2 : W.heap[w.heap.size + 1]? = some (Obj.cells fc 39 (0, 0))
  b3 : W.heap[sb]? = some (Obj.cells #[m0, m1, m2, m3, m4, m5, m6, m7, un] 35 (0, 0))
  sbx : w.heap.size + 1 < sb
  rm : hK.R 33 W w.heap.size tru um hs
  rw : oK.R 33 W w.heap.size tru uw ws
  rn : hK.R 33 W w.heap.size tru un ns
  amw : ∀ k, um.ownBlock = some k → uw.ownBlock ≠ some k
  amn : ∀ k, um.ownBlock = some k → un.ownBlock ≠ some k
  awn : ∀ k, uw.ownBlock = some k → un.ownBlock ≠ some k
  gs : GS w.heap.size hs rows i W
section
variable {w W W1 : World} {spc fc : Array Value} {sb : Nat} {m0 m1 m2 m3 m4 m5 m6 m7 um uw un v1 : Value} {hs : List Hd} {ws : List Oh} {ns : List Hd} {rows rows' : List (List Int)} {i : Nat}
theorem PI.later (h : PI w spc fc sb m0 m1 m2 m3 m4 m5 m6 m7 um uw un hs ws ns rows i W) (hb : Below W.heap.size W W1) : PI w spc fc sb m0 m1 m2 m3 m4 m5 m6 m7 um uw un hs ws ns rows i W1 :=
  ⟨below_step h.below hb, blk_below h.b1 hb, blk_below h.b2 hb, blk_below h.b3 hb, h.sbx, Kd.R_below h.rm hb, Kd.R_below h.rw hb, Kd.R_below h.rn hb, h.amw, h.amn, h.awn, h.gs.below hb⟩
theorem own_lt {α : Type} {d : Kd α} {e base : Nat} {ok : Nat → Prop} {v : Value} {xs : List α} (h : d.R e W base ok v xs) : ∀ k, v.ownBlock = some k → k < W.heap.size := fun k hk => by
  obtain ⟨c, hc⟩ := Kd.R_typed h k hk
  exact blk_lt hc
/-- What is new, or the old, is apart from what the old is apart from. -/
theorem apart_new {u v u1 : Value} (h : ∀ k, u.ownBlock = some k → v.ownBlock ≠ some k) (hv : ∀ k, v.ownBlock = some k → k < W.heap.size) (hat : u1.ownBlock = u.ownBlock ∨ ∃ b, u1.ownBlock = some b ∧ W.heap.size ≤ b) : ∀ k, u1.ownBlock = some k → v.ownBlock ≠ some k := by
  intro k hk e
  rcases hat with ha | ⟨b, ha, hb⟩
  · exact h k (ha.symm.trans hk) e
  · rw [ha] at hk; injection hk with hk; subst hk; have := hv _ e; omega
theorem apart_symm {u v : Value} (h : ∀ k, u.ownBlock = some k → v.ownBlock ≠ some k) : ∀ k, v.ownBlock = some k → u.ownBlock ≠ some k := fun k hk e => h k e hk
theorem PI.mine (h : PI w spc fc sb m0 m1 m2 m3 m4 m5 m6 m7 um uw un hs ws ns rows i W) {hs' : List Hd} (hg : W.grownBy W1 um.ownBlock) (hb : Below w.heap.size w W1) (ho : hK.R 33 W1 w.heap.size tru v1 hs') (hat : v1.ownBlock = um.ownBlock ∨ ∃ b, v1.ownBlock = some b ∧ W.heap.size ≤ b) (hgs : GS w.heap.size hs' rows' i W) :
    PI w spc fc sb m0 m1 m2 m3 m4 m5 m6 m7 v1 uw un hs' ws ns rows' i W1 :=
  ⟨hb, blk_grown h.b1 hg (Kd.R_ne h.rm h.b1 (by decide)), blk_grown h.b2 hg (Kd.R_ne h.rm h.b2 (by decide)), blk_grown h.b3 hg (Kd.R_ne h.rm h.b3 (by decide)), h.sbx, ho, R_sc_grown h.rw hg (apart_symm h.amw), R_sc_grown h.rn hg (apart_symm h.amn), apart_new h.amw (own_lt h.rw) hat, apart_new h.amn (own_lt h.rn) hat, h.awn, hgs.grown hg (Kd.R_typed h.rm)⟩
theorem PI.was (h : PI w spc fc sb m0 m1 m2 m3 m4 m5 m6 m7 um uw un hs ws ns rows i W) {ws' : List Oh} (hg : W.grownBy W1 uw.ownBlock) (hb : Below w.heap.size w W1) (ho : oK.R 33 W1 w.heap.size tru v1 ws') (hat : v1.ownBlock = uw.ownBlock ∨ ∃ b, v1.ownBlock = some b ∧ W.heap.size ≤ b) :
    PI w spc fc sb m0 m1 m2 m3 m4 m5 m6 m7 um v1 un hs ws' ns rows i W1 :=
  ⟨hb, blk_grown h.b1 hg (Kd.R_ne h.rw h.b1 (by decide)), blk_grown h.b2 hg (Kd.R_ne h.rw h.b2 (by decide)), blk_grown h.b3 hg (Kd.R_ne h.rw h.b3 (by decide)), h.sbx, R_sc_grown h.rm hg h.amw, ho, R_sc_grown h.rn hg (apart_symm h.awn), apart_symm (apart_new (apart_symm h.amw) (own_lt h.rm) hat), h.amn, apart_new h.awn (own_lt h.rn) hat, h.gs.grown hg (Kd.R_typed h.rw)⟩
theorem PI.grownN (h : PI w spc fc sb m0 m1 m2 m3 m4 m5 m6 m7 um uw un hs ws ns rows i W) (hg : W.grownBy W1 un.ownBlock) :
    W1.heap[w.heap.size]? = some (Obj.cells spc 35 (0, 0)) ∧ W1.heap[w.heap.size + 1]? = some (Obj.cells fc 39 (0, 0)) ∧ W1.heap[sb]? = some (Obj.cells #[m0, m1, m2, m3, m4, m5, m6, m7, un] 35 (0, 0)) :=
  ⟨blk_grown h.b1 hg (Kd.R_ne h.rn h.b1 (by decide)), blk_grown h.b2 hg (Kd.R_ne h.rn h.b2 (by decide)), blk_grown h.b3 hg (Kd.R_ne h.rn h.b3 (by decide))⟩
theorem PI.nodes (h : PI w spc fc sb m0 m1 m2 m3 m4 m5 m6 m7 um uw un hs ws ns rows i W) {ns' : List Hd} (hg : W.grownBy W1 un.ownBlock) (hb : Below w.heap.size w W1) (ho : hK.R 33 W1 w.heap.size tru v1 ns') (hat : v1.ownBlock = un.ownBlock ∨ ∃ b, v1.ownBlock = some b ∧ W.heap.size ≤ b) :
    PI w spc fc sb m0 m1 m2 m3 m4 m5 m6 m7 um uw v1 hs ws ns' rows i (W1.setCell ⟨sb, 8, none⟩ v1) := by
  obtain ⟨e1, e2, e3⟩ := h.grownN hg
  have hx := h.sbx
  exact ⟨below_set hb (by show _ ≤ sb; omega), blk_far e1 (p := ⟨sb, 8, none⟩) (by show _ ≠ _; simp; omega) _, blk_far e2 (p := ⟨sb, 8, none⟩) (by show _ ≠ _; simp; omega) _, blk_set e3 8 v1, hx, Kd.R_set (R_sc_grown h.rm hg h.amn) e3 (by decide) 8 v1, Kd.R_set (R_sc_grown h.rw hg h.awn) e3 (by decide) 8 v1, Kd.R_set ho e3 (by decide) 8 v1, h.amw, apart_symm (apart_new (apart_symm h.amn) (own_lt h.rm) hat), apart_symm (apart_new (apart_symm h.awn) (own_lt h.rw) hat), (h.gs.grown hg (Kd.R_typed h.rn)).far e3 (by decide) 8 v1⟩
theorem PI.next (h : PI w spc fc sb m0 m1 m2 m3 m4 m5 m6 m7 um uw un hs ws ns rows i W) : PI w spc fc sb m0 m1 m2 m3 m4 m5 m6 m7 um uw un hs ws ns rows (i + 1) W :=
  ⟨h.below, h.b1, h.b2, h.b3, h.sbx, h.rm, h.rw, h.rn, h.amw, h.amn, h.awn, h.gs.next⟩
theorem PI.put (h : PI w spc fc sb m0 m1 m2 m3 m4 m5 m6 m7 um uw un hs ws ns rows (i + 1) W) {hd : Hd} {row : List Int} (hi : hs[i]? = some hd) (hr : rows[i]? = some row) (k : Nat) (v : Int) : PI w spc fc sb m0 m1 m2 m3 m4 m5 m6 m7 um uw un hs ws ns rows (i + 1) (W.setCell ⟨hd.1, k, none⟩ (.int .i64 v)) := by
  obtain ⟨g1, g2, g3, g4, g5, xs, g6, cur, g7, g8⟩ := h.gs.inner i hd row hi hr
  exact ⟨below_set h.below g3, blk_far h.b1 (p := ⟨hd.1, k, none⟩) (blk_ne h.b1 g7 (by decide)) _, blk_far h.b2 (p := ⟨hd.1, k, none⟩) (blk_ne h.b2 g7 (by decide)) _, blk_far h.b3 (p := ⟨hd.1, k, none⟩) (blk_ne h.b3 g7 (by decide)) _, h.sbx, Kd.R_set h.rm g7 (by decide) k _, Kd.R_set h.rw g7 (by decide) k _, Kd.R_set h.rn g7 (by decide) k _, h.amw, h.amn, h.awn, h.gs.set hi k v⟩
end
/-- What was: the rows' headers as they came in. -/
structure WS (w : World) (ws : List Oh) (rows : List (List Int)) : Prop where
  len : ws.length = rows.length
  at_ : ∀ (j : Nat) (h : Oh) (row : List Int), ws[j]? = some h → rows[j]? = some row → h.2.1 = row.length ∧ row.length ≤ h.2.2 ∧ kI.C w h.1 row.length row ∧ (row.length + 2) * 8 ≤ 140737488355328
theorem WS.nil (w : World) : WS w [] [] := ⟨rfl, fun j h r hj => by simp at hj⟩
theorem WS.snoc {w : World} {ws : List Oh} {rows : List (List Int)} (h : WS w ws rows) {A : Option Addr} {c : Nat} {row : List Int} (h1 : row.length ≤ c) (h2 : kI.C w A row.length row) (h3 : (row.length + 2) * 8 ≤ 140737488355328) : WS w (ws ++ [(A, row.length, c)]) (rows ++ [row]) := by
  refine ⟨by simp [h.len], fun j hd r hj hr => ?_⟩
  rcases Nat.lt_or_ge j ws.length with hlt | hge
  · rw [List.getElem?_append_left hlt] at hj
    rw [List.getElem?_append_left (by have := h.len; omega)] at hr
    exact h.at_ j hd r hj hr
  · have hjl : j = ws.length := by
      have := (List.getElem?_eq_some_iff.1 hj).1
      simp at this; omega
    subst hjl
    rw [List.getElem?_append_right (Nat.le_refl _), Nat.sub_self] at hj
    rw [h.len, List.getElem?_append_right (Nat.le_refl _), Nat.sub_self] at hr
    injection hj with hj
    injection hr with hr
    subst hj
    subst hr
    exact ⟨rfl, h1, h2, h3⟩
/-- The nine fields that s holds, out of the headers and what they lead to. -/
theorem fields {W : World} {A : Option Addr} {n : Nat} {hs : List Hd} {cur : List (List Int)} {b0 n0 k0 : Nat} {b1 n1 k1 : Nat} {b2 n2 k2 : Nat} {b3 n3 k3 : Nat} {b4 n4 k4 : Nat} {b5 n5 k5 : Nat} {b6 n6 k6 : Nat} {b7 n7 k7 : Nat}
    (h8 : hs.take 8 = [(b0, n0, k0), (b1, n1, k1), (b2, n2, k2), (b3, n3, k3), (b4, n4, k4), (b5, n5, k5), (b6, n6, k6), (b7, n7, k7)]) (hn : hK.C W A n (hs.drop 8)) (hl : hs.length = cur.length) (hi : ∀ (j : Nat) (hd : Hd) (xs : List Int), hs[j]? = some hd → cur[j]? = some xs → hd.2.1 = xs.length ∧ xs.length + 2 ≤ hd.2.2 ∧ IB W hd.1 xs) (hb : ∀ x ∈ cur, x.length ≤ 9223372036854775807) :
    ∃ (x0 x1 x2 x3 x4 x5 x6 x7 : List Int) (x8 : List (List Int)), cur = x0 :: x1 :: x2 :: x3 :: x4 :: x5 :: x6 :: x7 :: x8 ∧ (n0 = x0.length ∧ x0.length ≤ k0 ∧ kI.C W (some ⟨b0, 0, none⟩) x0.length x0) ∧ (n1 = x1.length ∧ x1.length ≤ k1 ∧ kI.C W (some ⟨b1, 0, none⟩) x1.length x1) ∧ (n2 = x2.length ∧ x2.length ≤ k2 ∧ kI.C W (some ⟨b2, 0, none⟩) x2.length x2) ∧ (n3 = x3.length ∧ x3.length ≤ k3 ∧ kI.C W (some ⟨b3, 0, none⟩) x3.length x3) ∧ (n4 = x4.length ∧ x4.length ≤ k4 ∧ kI.C W (some ⟨b4, 0, none⟩) x4.length x4) ∧ (n5 = x5.length ∧ x5.length ≤ k5 ∧ kI.C W (some ⟨b5, 0, none⟩) x5.length x5) ∧ (n6 = x6.length ∧ x6.length ≤ k6 ∧ kI.C W (some ⟨b6, 0, none⟩) x6.length x6) ∧ (n7 = x7.length ∧ x7.length ≤ k7 ∧ kI.C W (some ⟨b7, 0, none⟩) x7.length x7) ∧ n = x8.length ∧ (Kd.slice 3 kI).C W A n x8 := by
  match cur, hs with
  | _, [] | _, [_] | _, [_, _] | _, [_, _, _] | _, [_, _, _, _] | _, [_, _, _, _, _] | _, [_, _, _, _, _, _] | _, [_, _, _, _, _, _, _] => simp at h8
  | [], _ :: _ :: _ :: _ :: _ :: _ :: _ :: _ :: _ | [_], _ :: _ :: _ :: _ :: _ :: _ :: _ :: _ :: _ | [_, _], _ :: _ :: _ :: _ :: _ :: _ :: _ :: _ :: _ | [_, _, _], _ :: _ :: _ :: _ :: _ :: _ :: _ :: _ :: _ | [_, _, _, _], _ :: _ :: _ :: _ :: _ :: _ :: _ :: _ :: _ | [_, _, _, _, _], _ :: _ :: _ :: _ :: _ :: _ :: _ :: _ :: _ | [_, _, _, _, _, _], _ :: _ :: _ :: _ :: _ :: _ :: _ :: _ :: _ | [_, _, _, _, _, _, _], _ :: _ :: _ :: _ :: _ :: _ :: _ :: _ :: _ => simp at hl; try omega
  | x0 :: x1 :: x2 :: x3 :: x4 :: x5 :: x6 :: x7 :: x8, g0 :: g1 :: g2 :: g3 :: g4 :: g5 :: g6 :: g7 :: hs8 =>
    simp only [List.take_succ_cons, List.take_zero, List.cons.injEq, and_true] at h8
    obtain ⟨rfl, rfl, rfl, rfl, rfl, rfl, rfl, rfl⟩ := h8
    have hl8 : hs8.length = x8.length := by simp at hl; omega
    have hn' : hK.C W A n hs8 := hn
    obtain ⟨u0, s0, i0⟩ := hi 0 _ _ rfl rfl
    have q0 := i0.C x0.length (Nat.le_refl _) (hb x0 (by simp))
    rw [List.take_length] at q0
    obtain ⟨u1, s1, i1⟩ := hi 1 _ _ rfl rfl
    have q1 := i1.C x1.length (Nat.le_refl _) (hb x1 (by simp))
    rw [List.take_length] at q1
    obtain ⟨u2, s2, i2⟩ := hi 2 _ _ rfl rfl
    have q2 := i2.C x2.length (Nat.le_refl _) (hb x2 (by simp))
    rw [List.take_length] at q2
    obtain ⟨u3, s3, i3⟩ := hi 3 _ _ rfl rfl
    have q3 := i3.C x3.length (Nat.le_refl _) (hb x3 (by simp))
    rw [List.take_length] at q3
    obtain ⟨u4, s4, i4⟩ := hi 4 _ _ rfl rfl
    have q4 := i4.C x4.length (Nat.le_refl _) (hb x4 (by simp))
    rw [List.take_length] at q4
    obtain ⟨u5, s5, i5⟩ := hi 5 _ _ rfl rfl
    have q5 := i5.C x5.length (Nat.le_refl _) (hb x5 (by simp))
    rw [List.take_length] at q5
    obtain ⟨u6, s6, i6⟩ := hi 6 _ _ rfl rfl
    have q6 := i6.C x6.length (Nat.le_refl _) (hb x6 (by simp))
    rw [List.take_length] at q6
    obtain ⟨u7, s7, i7⟩ := hi 7 _ _ rfl rfl
    have q7 := i7.C x7.length (Nat.le_refl _) (hb x7 (by simp))
    rw [List.take_length] at q7
    have hC := rows_C hn' hl8 (fun j hd xs hj hx => hi (j + 8) hd xs hj hx) (fun x hx => hb x (by simp [hx]))
    refine ⟨x0, x1, x2, x3, x4, x5, x6, x7, x8, rfl, ⟨u0, Nat.le_trans (Nat.le_add_right _ 2) s0, q0⟩, ⟨u1, Nat.le_trans (Nat.le_add_right _ 2) s1, q1⟩, ⟨u2, Nat.le_trans (Nat.le_add_right _ 2) s2, q2⟩, ⟨u3, Nat.le_trans (Nat.le_add_right _ 2) s3, q3⟩, ⟨u4, Nat.le_trans (Nat.le_add_right _ 2) s4, q4⟩, ⟨u5, Nat.le_trans (Nat.le_add_right _ 2) s5, q5⟩, ⟨u6, Nat.le_trans (Nat.le_add_right _ 2) s6, q6⟩, ⟨u7, Nat.le_trans (Nat.le_add_right _ 2) s7, q7⟩, hC.1.symm, hC⟩
/-- What Place gives of rows: the first eight are the parts, the rest the nodes' lists. -/
def placeL (rows : List (List Int)) (f1 f2 f3 : Int) : Int := match rows with
  | x0 :: x1 :: x2 :: x3 :: x4 :: x5 :: x6 :: x7 :: x8 => placeS x0 x1 x2 x3 x4 x5 x6 x7 x8 f1 f2 f3
  | _ => 0
end Go.Proofs.Ytcijanmckhlpiaa
