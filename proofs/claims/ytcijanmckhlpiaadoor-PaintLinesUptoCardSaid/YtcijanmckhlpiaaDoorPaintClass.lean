import Derived.Test.YtcijanmckhlpiaaDoorPaintLines
import Derived.Test.YtcijanmckhlpiaaDoorPaintPath
namespace Go.Proofs.YtcijanmckhlpiaaDoor
open Go.RowKit Go.Shelf Go.Proofs.YtcijanmckhlpiaaDoorW.PrintWords Go.Proofs.YtcijanmckhlpiaaDoorW.PrintLast Go.Proofs.YtcijanmckhlpiaaDoorW.PrintMore Go.Proofs.YtcijanmckhlpiaaDoor.PPaintLines
set_option linter.unusedVariables false
set_option linter.unusedSimpArgs false
attribute [local go_sem] Oper.semAt_some
namespace Paint
theorem ownsMap_below {H : Type} {W W' : World} {n₀ : Nat} {P : Program} {k : TypeId} {R : Value → Option (DataW H × List MemPlace)} {b n : Nat} {D : DataW H} (h : W.ownsMap P k R b n D) (hb : Below n₀ W W') (hn : b < n₀) : W'.ownsMap P k R b n D := by
  obtain ⟨es, clock, hh, F, hs, hD⟩ := h
  exact ⟨es, clock, (hb.block b hn).trans hh, F, hs, hD⟩
/-- The map, asked for a name. -/
theorem look_name {l : List PD} {D : DU} {b n : Nat} {W : World} (h : W.ownsMap Tryd.prog 9 (plainElem (H := Unit) Tryd.prog 3) b n D) (hD : LM D l 0) (s : ByteArray) (hs : s.size ≤ maxLen) :
    ∃ c : Int, (Instr.lookup 103 (.map (some b)) (.string s) true).run Tryd.prog W = .ok (.tuple #[.int .i64 c, .bool (lineS s l).isSome]) W ∧ ∀ cc, lineS s l = some cc → 0 ≤ c ∧ c < (l.length : Int) ∧ (rdP l c).2 = cc := by
  have hkey := WideMaps.keyOf_string_mk Tryd.underlying9 hs
  obtain ⟨v, ps, hrun, hv⟩ := h.look_ok (Maps.string_keyed Tryd.underlying9) Tryd.underlying103 (Tryd.zeroValue3 W) (plainElem_int Tryd.underlying3 (by decide)) hkey
  obtain ⟨c, rfl, hc, hwc⟩ := plainElem_int_inv Tryd.underlying3 hv
  refine ⟨c, ?_, fun cc hcc => ?_⟩
  · rw [hrun]
    cases hl : lineS s l with
    | none => rw [show Maps.has D (Lit.string s.data.toList) = false from hD.all_no hl]; rfl
    | some cc => obtain ⟨i, _, h1, _⟩ := hD.all_yes hl; rw [show Maps.has D (Lit.string s.data.toList) = true from h1]; rfl
  · obtain ⟨i, hi, h1, h2, h3⟩ := hD.all_yes hcc
    have e := congrArg Prod.fst hc
    simp only at e
    have e2 := (h2 _).symm.trans e
    injection e2 with e2
    injection e2 with _ e2
    subst e2
    exact ⟨by omega, by omega, h3⟩
theorem rd_mem100 (t : List S100) (y : Int) (h0 : 0 ≤ y) (h1 : y < (t.length : Int)) : rd_T100 t y ∈ t := by
  obtain ⟨k, rfl⟩ := Int.eq_ofNat_of_zero_le h0
  have e : rd_T100 t (k : Int) = t[k]'(by omega) := rdT_get t k (by omega)
  rw [e]
  exact List.getElem_mem _
theorem clsS_none (l : List PD) (t : List S100) : ∀ (L M : List Int), (∀ i ∈ L, lineS (rd_T100 t i).f0 l = none) → clsS l t (L ++ M) = clsS l t M
  | [], M, h => rfl
  | i :: L, M, h => by
    rw [List.cons_append, clsS, h i (by simp)]
    exact clsS_none l t L M (fun j hj => h j (by simp [hj]))
theorem rd_get (q : List Int) (j : Nat) (h : j < q.length) : rd q (j : Int) = q[j] := by
  unfold rd; rw [Int.toNat_natCast, List.getD_eq_getElem?_getD, List.getElem?_eq_getElem h]; rfl
theorem came_mem {n k j : Nat} (h : j < n) (hk : k ≤ j) : (⟨j, h⟩ : Fin n) ∈ came n k := by
  unfold came
  rw [List.mem_reverse, List.mem_drop_iff_getElem]
  exact ⟨j - k, by simp; omega, by simp; omega⟩
theorem clsS_done (l : List PD) (t : List S100) (q : List Int) (h : ∀ x ∈ came q.length 0, lineS (rd_T100 t (rd q ((x.1 : Nat) : Int))).f0 l = none) : clsS l t q.reverse = ⟨#[]⟩ := by
  have := clsS_none l t q.reverse [] (fun i hi => by
    obtain ⟨j, hj, rfl⟩ := List.getElem_of_mem (List.mem_reverse.1 hi)
    have := h ⟨j, hj⟩ (came_mem hj (Nat.zero_le _))
    rwa [rd_get q j hj] at this)
  rwa [List.append_nil] at this
theorem clsS_found (l : List PD) (t : List S100) (q : List Int) {k : Nat} (hk : k ≤ q.length) {ini : List (Fin q.length)} {x : Fin q.length} {s : ByteArray} (e : came q.length k = ini ++ [x]) (hn : ∀ x ∈ ini, lineS (rd_T100 t (rd q ((x.1 : Nat) : Int))).f0 l = none)
    (hs : lineS (rd_T100 t (rd q ((x.1 : Nat) : Int))).f0 l = some s) : clsS l t q.reverse = s := by
  by_cases hkl : k < q.length
  · rw [came_step hkl] at e
    obtain ⟨rfl, e5⟩ := List.append_inj' e rfl
    obtain rfl : (⟨k, hkl⟩ : Fin q.length) = x := by simpa using e5
    rw [rd_get q k hkl] at hs
    have h2 : q.reverse = (q.drop (k + 1)).reverse ++ (q[k] :: (q.take k).reverse) := by
      conv => lhs; rw [← List.take_append_drop k q, List.drop_eq_getElem_cons hkl]
      simp
    rw [h2, clsS_none l t _ _ (fun i hi => by
      obtain ⟨j, hj, rfl⟩ := List.getElem_of_mem (List.mem_reverse.1 hi)
      rw [List.length_drop] at hj
      have h3 : k + 1 + j < q.length := by omega
      have := hn ⟨k + 1 + j, h3⟩ (came_mem h3 (by omega))
      rw [rd_get q _ h3] at this
      rwa [List.getElem_drop]), clsS, hs]
  · obtain rfl : k = q.length := by omega
    rw [came_all] at e
    have := congrArg List.length e
    simp at this
set_option maxRecDepth 100000 in
set_option maxHeartbeats 4000000 in
theorem class_any (A : Option Addr) (c : Nat) (l : List PD) (B : Option Addr) (d : Nat) (t : List S100) (a : Int) (b n0 : Nat) (D : DU) (w : World) (hr : kPD.C w A l.length l) (hz : l.length ≤ 1048576) (hrt : k100.C w B t.length t) (hd : t.length ≤ d) (hzt : t.length ≤ 1048576)
    (hkr : ∀ x ∈ t, x.f5 ≤ 9223372036854775807) (hst : ∀ x ∈ t, x.f0.size ≤ maxLen) (hm : w.ownsMap Tryd.prog 9 (plainElem (H := Unit) Tryd.prog 3) b n0 D) (hD : LM D l 0) :
    Calls Tryd.prog 39 #[LG (.slice A l.length c), .map (some b), .slice B t.length d, .int .i64 a] w fun e W' => e = .returned (.string (clsS l t (pathAll t a).reverse)) ∧ Below w.heap.size w W' := by
  refine (callsIn_wide (n := 9)).1 ?_
  have hP := fun W (h : k100.C W B t.length t) => callsIn_wide (n := 9 - 1).2 (path_any B d t a W h hd hzt hkr)
  have hpl := pathAll_len t a
  have HPM := pathAll_mem t a
  generalize pathAll t a = q at *
  unfold LG
  refine callsIn_of_wp_marks Tryd.func39 rfl trivial ?_ rfl
  simp only [Tryd.ntmps39, List.size_toArray, List.length_cons, List.length_nil, Nat.reduceAdd, Nat.reduceSub, Array.replicate_succ, Array.replicate_zero, List.push_toArray, List.append_toArray, List.nil_append, List.cons_append]
  have bL := ((((blk_alloc (blk_alloc (blk_alloc (blk_new w (.cells #[.string ⟨#[]⟩, .slice none 0 0, .slice none 0 0, .slice none 0 0, .slice none 0 0, .slice none 0 0, .slice none 0 0, .slice none 0 0, .slice A l.length c, .slice none 0 0, .slice none 0 0, .slice none 0 0] 57)) (.cells #[.map (some b)] 103)) (.cells #[.slice B t.length d] 38)) (.cells #[.string ⟨#[]⟩] 9)))))
  have bM := blk_alloc (blk_alloc (blk_new (w.alloc (.cells #[.string ⟨#[]⟩, .slice none 0 0, .slice none 0 0, .slice none 0 0, .slice none 0 0, .slice none 0 0, .slice none 0 0, .slice none 0 0, .slice A l.length c, .slice none 0 0, .slice none 0 0, .slice none 0 0] 57)) (.cells #[.map (some b)] 103)) (.cells #[.slice B t.length d] 38)) (.cells #[.string ⟨#[]⟩] 9)
  have bT := blk_alloc (blk_new ((w.alloc (.cells #[.string ⟨#[]⟩, .slice none 0 0, .slice none 0 0, .slice none 0 0, .slice none 0 0, .slice none 0 0, .slice none 0 0, .slice none 0 0, .slice A l.length c, .slice none 0 0, .slice none 0 0, .slice none 0 0] 57)).alloc (.cells #[.map (some b)] 103)) (.cells #[.slice B t.length d] 38)) (.cells #[.string ⟨#[]⟩] 9)
  have bR := blk_new (((w.alloc (.cells #[.string ⟨#[]⟩, .slice none 0 0, .slice none 0 0, .slice none 0 0, .slice none 0 0, .slice none 0 0, .slice none 0 0, .slice none 0 0, .slice A l.length c, .slice none 0 0, .slice none 0 0, .slice none 0 0] 57)).alloc (.cells #[.map (some b)] 103)).alloc (.cells #[.slice B t.length d] 38)) (.cells #[.string ⟨#[]⟩] 9)
  simp only [World.size_alloc] at bM bT bR
  have hB0 : Below w.heap.size w ((((w.alloc (.cells #[.string ⟨#[]⟩, .slice none 0 0, .slice none 0 0, .slice none 0 0, .slice none 0 0, .slice none 0 0, .slice none 0 0, .slice none 0 0, .slice A l.length c, .slice none 0 0, .slice none 0 0, .slice none 0 0] 57)).alloc (.cells #[.map (some b)] 103)).alloc (.cells #[.slice B t.length d] 38)).alloc (.cells #[.string ⟨#[]⟩] 9)) := ((((Below.refl _ w).alloc (Nat.le_refl _) _).alloc (by simp) _).alloc (by simp; omega) _).alloc (by simp; omega) _
  have hsz : ((((w.alloc (.cells #[.string ⟨#[]⟩, .slice none 0 0, .slice none 0 0, .slice none 0 0, .slice none 0 0, .slice none 0 0, .slice none 0 0, .slice none 0 0, .slice A l.length c, .slice none 0 0, .slice none 0 0, .slice none 0 0] 57)).alloc (.cells #[.map (some b)] 103)).alloc (.cells #[.slice B t.length d] 38)).alloc (.cells #[.string ⟨#[]⟩] 9)).heap.size = w.heap.size + 4 := by simp
  gi_wp2
  refine ⟨trivial, ?_⟩
  generalize ((((w.alloc (.cells #[.string ⟨#[]⟩, .slice none 0 0, .slice none 0 0, .slice none 0 0, .slice none 0 0, .slice none 0 0, .slice none 0 0, .slice none 0 0, .slice A l.length c, .slice none 0 0, .slice none 0 0, .slice none 0 0] 57)).alloc (.cells #[.map (some b)] 103)).alloc (.cells #[.slice B t.length d] 38)).alloc (.cells #[.string ⟨#[]⟩] 9)) = W0 at *
  refine (hP W0 (Kd.C_below hrt hB0)).mono ?_
  rintro e Wp ⟨Aq, cq, rfl, hcq, hCq, hbp⟩
  clear hP
  have bL := blk_below bL hbp
  have bM := blk_below bM hbp
  have bT := blk_below bT hbp
  have bR := blk_below bR hbp
  have hBp := below_step hB0 hbp
  have hmp := ownsMap_below hm hBp hm.lt
  have hszp : w.heap.size + 4 ≤ Wp.heap.size := by have := hbp.size; omega
  have hCA := Kd.C_below hr hBp
  have hCT := Kd.C_below hrt hBp
  have hbw := hm.lt
  clear hbp hB0 hm hr hrt hsz
  gi_wp2_with (refine ⟨trivial, ?_⟩; gi_at_call 61; refine (backI Fence.wide (9 - 1) trivial rfl _ _ _ _).mono ?_; rintro e w' ⟨rfl, rfl⟩)
  have bN := Boxed.new Wp 95 (.slice Aq q.length cq)
  have hBq : Below Wp.heap.size Wp (Wp.alloc (.cells #[.slice Aq q.length cq] 95)) := (Below.refl _ Wp).alloc (Nat.le_refl _) _
  obtain ⟨W0, hW0⟩ : ∃ W0, Wp.alloc (.cells #[.slice Aq q.length cq] 95) = W0 := ⟨_, rfl⟩
  have hsq : (Wp.alloc (.cells #[.slice Aq q.length cq] 95)).heap.size = Wp.heap.size + 1 := by simp
  rw [hW0] at bN hBq hsq ⊢
  clear hW0
  refine wpIn_rangeFunc_ownG rfl (by omega) (gf := 94) (lb := #[.pointer (some ⟨Wp.heap.size, 0, none⟩)]) rfl trivial (enters_of Tryd.func94 (by kernel_rfl) rfl)
    (backI_stops Fence.wide (9 - 1) trivial rfl (by omega) Wp.heap.size Wp W0 Aq cq q hCq (by omega) hBq (by omega) bN.cell) kpB_t (kpB_b (by omega) (by omega)) (Below.refl _ _) (fun _ => rfl)
    (fun pre W => (Below Wp.heap.size Wp W ∧ Boxed W Wp.heap.size 95 (.slice Aq q.length cq)) ∧ ∀ x ∈ pre, lineS (rd_T100 t (rd q ((x.1 : Nat) : Int))).f0 l = none)
    (fun cc pre W => (cc = .ret ∧ ∃ ini x, pre = ini ++ [x] ∧ (∀ x ∈ ini, lineS (rd_T100 t (rd q ((x.1 : Nat) : Int))).f0 l = none) ∧ ∃ s, lineS (rd_T100 t (rd q ((x.1 : Nat) : Int))).f0 l = some s ∧ W.cell? ⟨w.heap.size + 1 + 1 + 1, 0, none⟩ = some (.string s)) ∧ Below w.heap.size w W)
    (OwnFrom.and (OwnFrom.and (ownFrom_below (Nat.le_refl _) (by omega)) (Own.from (boxed_own _ _ _) _)) (fun s A B row hs hg hr => hs))
    (fun cc => OwnFrom.and (Own.from (fun s A B row hs hg hr => by obtain ⟨hc, ini, x, e1, e2, s, e3, e4⟩ := hs; exact ⟨hc, ini, x, e1, e2, s, e3, cell_kept e4 hg hr⟩) _) (ownFrom_below (by omega) (by omega)))
    ⟨⟨hBq, bN⟩, fun x hx => by cases hx⟩
    (fun x => { tmps := #[.agg #[.string ⟨#[]⟩, .slice none 0 0, .slice none 0 0, .slice none 0 0, .slice none 0 0, .slice none 0 0, .slice none 0 0, .slice none 0 0, .slice A l.length c, .slice none 0 0, .slice none 0 0, .slice none 0 0], .map (some b), .slice B t.length d, .int .i64 a, .pointer (some ⟨w.heap.size, 0, none⟩), .pointer (some ⟨w.heap.size + 1, 0, none⟩), .pointer (some ⟨w.heap.size + 1 + 1, 0, none⟩), undef, .pointer (some ⟨w.heap.size + 1 + 1 + 1, 0, none⟩), undef, .int .i64 (rd q ((x.1 : Nat) : Int)), undef, undef, .slice B t.length d, .int .i64 a, .slice Aq q.length cq, .func (.func 94) #[] #[.pointer (some ⟨Wp.heap.size, 0, none⟩)], .int .i64 ((x.1 : Nat) : Int), .int .i64 (rd q ((x.1 : Nat) : Int)), undef, undef, undef, undef, undef, undef, undef, undef, undef, undef, undef, undef, undef, undef, undef, undef, undef], defers := [] })
    ?assign ?body ?done ?stop
  case assign =>
    rintro ll x W K hK
    unfold encI
    gi_wp2
    exact hK
  case body =>
    rintro ll pre x W ⟨⟨hBW, bN1⟩, hno⟩ hlt
    have hx0 : rd q ((x.1 : Nat) : Int) = q[x.1] := by unfold rd; rw [Int.toNat_natCast, List.getD_eq_getElem?_getD, List.getElem?_eq_getElem x.2]; rfl
    have hxq := HPM _ (List.getElem_mem x.2)
    rw [← hx0] at hxq
    clear hx0
    obtain ⟨ad, rfl, g0, _⟩ := at_T100 (Kd.C_below hCT hBW) (rd q ((x.1 : Nat) : Int)) hxq.1 hxq.2
    have hsn : (rd_T100 t (rd q ((x.1 : Nat) : Int))).f0.size ≤ maxLen := hst _ (rd_mem100 t _ hxq.1 hxq.2)
    have hno2 : lineS (rd_T100 t (rd q ((x.1 : Nat) : Int))).f0 l = none → ∀ z ∈ pre ++ [x], lineS (rd_T100 t (rd q ((z.1 : Nat) : Int))).f0 l = none := fun h z hz => by
      rcases List.mem_append.1 hz with hz | hz
      · exact hno z hz
      · rw [List.mem_singleton] at hz; subst hz; exact h
    have hex : Hid (∀ s, lineS (rd_T100 t (rd q ((x.1 : Nat) : Int))).f0 l = some s → ∃ ini y, pre ++ [x] = ini ++ [y] ∧ (∀ x ∈ ini, lineS (rd_T100 t (rd q ((x.1 : Nat) : Int))).f0 l = none) ∧ lineS (rd_T100 t (rd q ((y.1 : Nat) : Int))).f0 l = some s) := fun s h => ⟨pre, x, rfl, hno, h⟩
    clear hno
    have hno2 := Lib.hid hno2
    generalize hxx : rd q ((x.1 : Nat) : Int) = y at *
    generalize hnm : (rd_T100 t y).f0 = nm at *
    obtain ⟨hx1, hx2⟩ := hxq
    have qM := blk_cell (blk_below bM hBW) 0
    have qT := blk_cell (blk_below bT hBW) 0
    have qL := blk_cell (blk_below bL hBW) 8
    have bR1 := blk_below bR hBW
    have qR := blk_cell bR1 0
    have rR := blk_frozen bR1 0
    simp only [List.getElem?_toArray, List.getElem?_cons_zero, List.getElem?_cons_succ] at qM qT qL qR
    obtain ⟨k, hlk, hlk2⟩ := look_name (W := W.drew) ((ownsMap_below hmp hBW (by omega)).drew) hD nm hsn
    cases hls : lineS nm l with
    | none =>
      rw [hls] at hlk
      have hmx : Tryd.prog.follows .mixedOrders = true := by kernel_rfl
      gi_wp2
      gi_region_with_o (fail)
      all_goals gi_wp2
      all_goals exact ⟨(KeepsOthers.drew _).from _, ⟨(Below.refl _ W).drew, rfl⟩, ⟨⟨hBW.drew, bN1⟩, hno2.out hls⟩⟩
    | some s =>
      rw [hls] at hlk
      have hmx : Tryd.prog.follows .mixedOrders = true := by kernel_rfl
      obtain ⟨hk0, hk1, hk2⟩ := hlk2 s hls
      obtain ⟨adl, rfl, _, gl⟩ := at_P (Kd.C_below hCA hBW) k hk0 hk1
      rw [hk2] at gl
      have hE := Lib.hid (hex.out s hls)
      clear hlk2 hex hno2 hk2
      gi_wp2
      gi_region_with_o (fail)
      all_goals gi_wp2
      all_goals exact ⟨((KeepsOthers.drew W).trans (KeepsOthers.setCell _ _ _)).from _, ⟨rfl, by obtain ⟨ini, y, h1, h2, h3⟩ := hE.out; exact ⟨ini, y, h1, h2, s, h3, blk_cell (blk_set (w := W.drew) bR1 0 (.string s)) 0⟩⟩, (hBp.trans ((hBW.drew).mono hBp.size)).setCell (p := ⟨w.heap.size + 1 + 1 + 1, 0, none⟩) (by simp; omega) _⟩
  case done =>
    rintro DD ys W hDD rfl ⟨⟨hBW, bN1⟩, hno⟩ hK
    have bR1 := blk_below bR hBW
    have qR := blk_cell bR1 0
    have rR := blk_frozen bR1 0
    simp only [List.getElem?_toArray, List.getElem?_cons_zero, List.getElem?_cons_succ] at qR
    have hqq := clsS_done l t q hno
    gi_wp2
    have hK' := (KeepsOthers.setCell W ⟨w.heap.size + 1 + 1 + 1, 0, none⟩ (.string ⟨#[]⟩)).same DD _ hK rfl
    refine ⟨by simp, .inl ⟨_, _, rfl, run_takeDeferred hK', ?_⟩⟩
    have hc5 := cell_kept (World.cell?_setCell_same' W ⟨w.heap.size + 1 + 1 + 1, 0, none⟩ (.string ⟨#[]⟩) (by rw [qR]; rfl)) (grownBy_putObj' _ DD (.deferred none)) (fun r e => by cases e; exact ⟨_, hK', rfl⟩)
    refine ⟨.string ⟨#[]⟩, ?_, by rw [hqq], ((hBp.trans (hBW.mono hBp.size)).setCell (p := ⟨w.heap.size + 1 + 1 + 1, 0, none⟩) (by simp; omega) _).trans (belowK_b (w := w) (Nat.le_refl _) _ DD _ _ (by omega) hK' rfl rfl)⟩
    simp [results, Tryd.f39, go_sem, hc5]
  case stop =>
    rintro DD cc pre W hDD ⟨k, hk, hpre⟩ ⟨⟨rfl, ini, x, e1, e2, s, e3, e4⟩, hBW⟩ hK
    rw [hpre] at e1
    have hqq := clsS_found l t q hk e1 e2 e3
    gi_wp2
    refine ⟨by simp, .inl ⟨_, _, rfl, run_takeDeferred hK, ?_⟩⟩
    have hc5 := cell_kept e4 (grownBy_putObj' _ DD (.deferred none)) (fun r e => by cases e; exact ⟨_, hK, rfl⟩)
    refine ⟨.string s, ?_, by rw [hqq], hBW.trans (belowK_b (w := w) (Nat.le_refl _) W DD _ _ (by omega) hK rfl rfl)⟩
    simp [results, Tryd.f39, go_sem, hc5]
end Paint
end Go.Proofs.YtcijanmckhlpiaaDoor
