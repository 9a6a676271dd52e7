import Derived.Test.YtcijanmckhlpiaaPTableEncodesx6
import Derived.Test.YtcijanmckhlpiaaPTableEncodesx8
import Derived.Test.YtcijanmckhlpiaaPTableEncodesx12
namespace Go.Proofs.Ytcijanmckhlpiaa
open Go.RowKit Go.Proofs.YtcijanmckhlpiaaW.PrintWords Go.Proofs.YtcijanmckhlpiaaW.PrintLast Go.Proofs.YtcijanmckhlpiaaW.PrintMore Go.Proofs.Ytcijanmckhlpiaa.PTableEncodes
set_option linter.unusedVariables false
set_option linter.unusedSimpArgs false

theorem w64n {i : Nat} (h : i + 1 ≤ 9223372036854775807) : wrap64 ((i : Int) + 1) = ((i + 1 : Nat) : Int) := by unfold wrap64; omega
theorem rdT_nat (row : List S80) (i : Nat) (h : i < row.length) : rd_T80 row (i : Int) = row[i] := by
  unfold rd_T80
  rw [Int.toNat_natCast, List.getD_eq_getElem?_getD, List.getElem?_eq_getElem h]; rfl
theorem rd_nat (row : List Int) (i : Nat) (h : i < row.length) : rd row (i : Int) = row[i] := by
  unfold rd
  rw [Int.toNat_natCast, List.getD_eq_getElem?_getD, List.getElem?_eq_getElem h]; rfl
theorem rdL2_nat (l : List (List S80)) (i : Nat) (h : i < l.length) : rd_L2 l (i : Int) = l[i] := by
  unfold rd_L2
  rw [Int.toNat_natCast, List.getD_eq_getElem?_getD, List.getElem?_eq_getElem h]; rfl
theorem rdL3_nat (l : List (List Int)) (i : Nat) (h : i < l.length) : rd_L3 l (i : Int) = l[i] := by
  unfold rd_L3
  rw [Int.toNat_natCast, List.getD_eq_getElem?_getD, List.getElem?_eq_getElem h]; rfl

/-! ### fits, shaped -/
def fitsB (n : Int) (a : S80) : Bool := if a.f0 = 0 ∨ a.f0 = 3 then a.f1 == 0 else if a.f0 = 1 then (if a.f1 ≥ 0 then decide (a.f1 < n) else false) else if a.f0 = 2 then (if a.f1 ≥ 0 then decide (a.f1 < 256) else false) else false
theorem fits_ev (a : S80) (n : Int) : Ev (fun k => table_fits.f k a.f0 a.f1 n) (fitsB n a) := by
  refine Ev.congr (f := fun k => table_fits.j0 k n a.f0 (decide (a.f0 = 0 ∨ a.f0 = 3)) a.f0 a.f1) (fun k => ?_) ?_
  · unfold table_fits.f
    by_cases h : a.f0 = 0
    · simp [h]
    · rw [if_neg h]
      congr 1
      by_cases h3 : a.f0 = 3 <;> simp [h, h3]
  · refine Ev.step (f := fun _ => some (fitsB n a)) (fun k => ?_) (Ev.now _)
    simp only [table_fits.j0, fitsB, decide_eq_true_eq]
    split
    · rfl
    · split
      · split <;> rfl
      · split
        · split <;> rfl
        · rfl
theorem rfits_ev (a : S80) (n : Int) : Ev (fun k => trellisref13_fits.f k a.f0 a.f1 n) (fitsB n a) := by
  refine Ev.congr (f := fun k => trellisref13_fits.j0 k n a.f0 (decide (a.f0 = 0 ∨ a.f0 = 3)) a.f0 a.f1) (fun k => ?_) ?_
  · unfold trellisref13_fits.f
    by_cases h : a.f0 = 0
    · simp [h]
    · rw [if_neg h]
      congr 1
      by_cases h3 : a.f0 = 3 <;> simp [h, h3]
  · refine Ev.step (f := fun _ => some (fitsB n a)) (fun k => ?_) (Ev.now _)
    simp only [trellisref13_fits.j0, fitsB, decide_eq_true_eq]
    split
    · rfl
    · split
      · split <;> rfl
      · split
        · split <;> rfl
        · rfl
def inrB (n : Int) (g : Int) : Bool := !(decide (g < -1)) && !(decide (g ≥ n))
def shRows (n terms syms : Int) : List (List S80) → List (List Int) → Bool
  | r :: rs, g :: gs => decide ((r.length : Int) = terms) && !((g.length : Int) != syms) && (r.all (fitsB n) && (g.all (inrB n) && shRows n terms syms rs gs))
  | _, _ => true
def shB (l : List (List S80)) (m : List (List Int)) : Bool :=
  decide (1 ≤ l.length ∧ l.length ≤ 2048 ∧ m.length = l.length ∧ 1 ≤ (rd_L2 l 0).length ∧ (rd_L2 l 0).length ≤ 64 ∧ (rd_L3 m 0).length ≤ 128) && shRows l.length (rd_L2 l 0).length (rd_L3 m 0).length l m

theorem sh_l2 (l : List (List S80)) (m : List (List Int)) (x3 x4 x5 x47 : Int) (s : Nat) (g : List Int) (hg : g.length ≤ 9223372036854775807) (NX : Bool) (hn : Ev (fun k => table_shaped.l0 k x3 x4 x5 x47 (wrap64 ((s : Int) + 1)) l m) NX) :
    ∀ (d i : Nat), g.length - i = d → i ≤ g.length → Ev (fun k => table_shaped.l2 k x3 x4 x5 x47 s g (g.length : Int) i l m) ((g.drop i).all (inrB x3) && NX) := by
  intro d
  induction d with
  | zero =>
    intro i hd hi
    rw [List.drop_eq_nil_of_le (by omega)]
    simp only [List.all_nil, Bool.true_and]
    exact Ev.step (fun k => by simp only [table_shaped.l2]; rw [if_neg (by omega)]) hn
  | succ d ih =>
    intro i hd hi
    have hlt : i < g.length := by omega
    have h := ih (i + 1) (by omega) (by omega)
    rw [List.drop_eq_getElem_cons hlt]
    simp only [List.all_cons, inrB]
    have hs : ∀ k, table_shaped.l2 (k + 1) x3 x4 x5 x47 s g (g.length : Int) i l m = (if g[i] < -1 then some false else if g[i] ≥ x3 then some false else table_shaped.l2 k x3 x4 x5 x47 s g (g.length : Int) ((i + 1 : Nat) : Int) l m) := by
      intro k
      simp only [table_shaped.l2]
      rw [if_pos (by omega), if_pos (by omega), if_pos (by omega), rd_nat g i hlt, w64n (by omega)]
    refine Ev.step hs ?_
    by_cases h1 : g[i] < -1
    · simp only [if_pos h1, decide_eq_true h1, Bool.not_true, Bool.false_and]; exact Ev.now _
    · by_cases h2 : g[i] ≥ x3
      · simp only [if_neg h1, if_pos h2, decide_eq_true h2, Bool.not_true, Bool.and_false, Bool.false_and]; exact Ev.now _
      · simp only [if_neg h1, if_neg h2, decide_eq_false h1, decide_eq_false h2, Bool.not_false, Bool.true_and]
        exact h
theorem sh_l1 (l : List (List S80)) (m : List (List Int)) (x3 x4 x5 x47 : Int) (s : Nat) (hs : s < m.length) (r : List S80) (hr : r.length ≤ 9223372036854775807) (NX : Bool) (hn : Ev (fun k => table_shaped.l2 k x3 x4 x5 x47 s (m[s]) ((m[s]).length : Int) ((0 : Nat) : Int) l m) NX) :
    ∀ (d i : Nat), r.length - i = d → i ≤ r.length → Ev (fun k => table_shaped.l1 k x3 x4 x5 s x47 s r (r.length : Int) i l m) ((r.drop i).all (fitsB x3) && NX) := by
  intro d
  induction d with
  | zero =>
    intro i hd hi
    rw [List.drop_eq_nil_of_le (by omega)]
    simp only [List.all_nil, Bool.true_and]
    exact Ev.step (fun k => by simp only [table_shaped.l1]; rw [if_neg (by omega), if_pos (by omega), if_pos (by omega), rdL3_nat m s hs]; rfl) hn
  | succ d ih =>
    intro i hd hi
    have hlt : i < r.length := by omega
    have h := ih (i + 1) (by omega) (by omega)
    rw [List.drop_eq_getElem_cons hlt]
    simp only [List.all_cons]
    have hs : ∀ k, table_shaped.l1 (k + 1) x3 x4 x5 s x47 s r (r.length : Int) i l m = (table_fits.f k (r[i]).f0 (r[i]).f1 x3).bind fun t => (if t = true then table_shaped.l1 k x3 x4 x5 s x47 s r (r.length : Int) ((i + 1 : Nat) : Int) l m else some false) := by
      intro k
      simp only [table_shaped.l1]
      rw [if_pos (by omega), if_pos (by omega), if_pos (by omega), rdT_nat r i hlt, w64n (by omega)]
    refine Ev.step hs (Ev.bind (fits_ev _ _) ?_)
    cases fitsB x3 r[i] with
    | true => simpa using h
    | false => exact Ev.now _
theorem sh_l0 (l : List (List S80)) (m : List (List Int)) (hl : l.length ≤ 2048) (hm : m.length = l.length) (hbl : ∀ x ∈ l, x.length ≤ 9223372036854775807) (hbm : ∀ x ∈ m, x.length ≤ 9223372036854775807) (x4 x5 : Int) :
    ∀ (d s : Nat), l.length - s = d → s ≤ l.length → Ev (fun k => table_shaped.l0 k (l.length : Int) x4 x5 (l.length : Int) s l m) (shRows l.length x4 x5 (l.drop s) (m.drop s)) := by
  intro d
  induction d with
  | zero =>
    intro s hd hs
    rw [List.drop_eq_nil_of_le (by omega)]
    exact Ev.step (f := fun _ => some true) (fun k => by simp only [table_shaped.l0]; rw [if_neg (by omega)]) (Ev.now _)
  | succ d ih =>
    intro s hd hs
    have hlt : s < l.length := by omega
    have hlm : s < m.length := by omega
    have h := ih (s + 1) (by omega) (by omega)
    rw [List.drop_eq_getElem_cons hlt, List.drop_eq_getElem_cons hlm]
    simp only [shRows]
    refine Ev.step (f := fun k => table_shaped.j3 k (l.length : Int) x4 x5 s (l.length : Int) s (!(decide (((l[s]).length : Int) = x4) && !(((m[s]).length : Int) != x5))) l m) (fun k => ?_) ?_
    · simp only [table_shaped.l0]
      rw [if_pos (by omega), if_pos (by omega), if_pos (by omega), rdL2_nat l s hlt, rdL3_nat m s hlm]
      by_cases h1 : ((l[s]).length : Int) = x4
      · rw [if_pos h1, if_pos (by omega), decide_eq_true h1, Bool.true_and, Bool.not_not]
      · rw [if_neg h1, decide_eq_false h1, Bool.false_and, Bool.not_false]
    · cases hc : (decide (((l[s]).length : Int) = x4) && !(((m[s]).length : Int) != x5)) with
      | false => exact Ev.step (f := fun _ => some false) (fun k => by simp only [table_shaped.j3]; rw [if_pos (by decide)]) (Ev.now _)
      | true =>
        simp only [Bool.true_and]
        have h2 := sh_l2 l m l.length x4 x5 l.length s (m[s]) (hbm _ (List.getElem_mem hlm)) _ (by rw [w64n (by omega)]; exact h) _ 0 rfl (Nat.zero_le _)
        have h1 := sh_l1 l m l.length x4 x5 l.length s hlm (l[s]) (hbl _ (List.getElem_mem hlt)) _ h2 _ 0 rfl (Nat.zero_le _)
        refine Ev.step (fun k => ?_) h1
        simp only [table_shaped.j3]
        rw [if_neg (by decide), if_pos (by omega), if_pos (by omega), rdL2_nat l s hlt]
        rfl
theorem sh_ev (l : List (List S80)) (m : List (List Int)) (hbl : ∀ x ∈ l, x.length ≤ 9223372036854775807) (hbm : ∀ x ∈ m, x.length ≤ 9223372036854775807) : Ev (fun k => table_shaped.f k l m) (shB l m) := by
  unfold shB
  refine Ev.congr (f := fun k => table_shaped.j0 k (l.length : Int) (!decide (1 ≤ l.length ∧ l.length ≤ 2048 ∧ m.length = l.length)) l m) (fun k => ?_) ?_
  · unfold table_shaped.f
    by_cases h1 : (l.length : Int) = 0
    · rw [if_pos h1, decide_eq_false (by omega)]; rfl
    · rw [if_neg h1]
      by_cases h2 : (l.length : Int) > 2048
      · rw [if_pos h2, decide_eq_false (by omega)]; rfl
      · rw [if_neg h2]
        congr 1
        by_cases h3 : m.length = l.length
        · rw [decide_eq_true (by omega), h3]; simp
        · rw [decide_eq_false (by omega)]; simp; omega
  · by_cases hc : 1 ≤ l.length ∧ l.length ≤ 2048 ∧ m.length = l.length
    · obtain ⟨h1, h2, h3⟩ := hc
      rw [decide_eq_true (p := 1 ≤ l.length ∧ l.length ≤ 2048 ∧ m.length = l.length) ⟨h1, h2, h3⟩]
      refine Ev.step (f := fun k => table_shaped.j1 k (l.length : Int) ((rd_L2 l 0).length : Int) ((rd_L3 m 0).length : Int) (!decide (1 ≤ (rd_L2 l 0).length ∧ (rd_L2 l 0).length ≤ 64 ∧ (rd_L3 m 0).length ≤ 128)) l m) (fun k => ?_) ?_
      · simp only [table_shaped.j0]
        rw [if_neg (by decide), if_pos (by omega), if_pos (by omega)]
        by_cases h4 : ((rd_L2 l 0).length : Int) = 0
        · rw [if_pos h4, decide_eq_false (by omega)]; rfl
        · rw [if_neg h4]
          by_cases h5 : ((rd_L2 l 0).length : Int) > 64
          · rw [if_pos h5, decide_eq_false (by omega)]; rfl
          · rw [if_neg h5]
            congr 1
            by_cases h6 : (rd_L3 m 0).length ≤ 128
            · rw [decide_eq_true (p := 1 ≤ (rd_L2 l 0).length ∧ (rd_L2 l 0).length ≤ 64 ∧ (rd_L3 m 0).length ≤ 128) (by omega), decide_eq_false (by omega)]; rfl
            · rw [decide_eq_false (p := 1 ≤ (rd_L2 l 0).length ∧ (rd_L2 l 0).length ≤ 64 ∧ (rd_L3 m 0).length ≤ 128) (by omega), decide_eq_true (by omega)]; rfl
      · by_cases h4 : 1 ≤ (rd_L2 l 0).length ∧ (rd_L2 l 0).length ≤ 64 ∧ (rd_L3 m 0).length ≤ 128
        · rw [decide_eq_true h4, decide_eq_true (p := 1 ≤ l.length ∧ _) ⟨h1, h2, h3, h4⟩, Bool.true_and]
          refine Ev.step (fun k => ?_) (sh_l0 l m h2 h3 hbl hbm _ _ _ 0 rfl (Nat.zero_le _))
          simp only [table_shaped.j1]
          rw [if_neg (by decide)]; rfl
        · rw [decide_eq_false h4, decide_eq_false (p := 1 ≤ l.length ∧ _) (fun h => h4 h.2.2.2)]
          exact Ev.step (f := fun _ => some false) (fun k => by simp only [table_shaped.j1]; rw [if_pos (by decide)]) (Ev.now _)
    · rw [decide_eq_false hc, decide_eq_false (p := 1 ≤ l.length ∧ _) (fun h => hc ⟨h.1, h.2.1, h.2.2.1⟩)]
      exact Ev.step (f := fun _ => some false) (fun k => by simp only [table_shaped.j0]; rw [if_pos (by decide)]) (Ev.now _)

/-! ### the document's -/
theorem rsh_l2 (l : List (List S80)) (m : List (List Int)) (x3 x4 : Int) (s : Nat) (hs : s < m.length) (hg : (m[s]).length ≤ 9223372036854775807) (NX : Bool) (hn : Ev (fun k => trellisref13_Shaped.l0 k x3 x4 ((m[s]).length : Int) (wrap64 ((s : Int) + 1)) l m) NX) :
    ∀ (d i : Nat), (m[s]).length - i = d → i ≤ (m[s]).length → Ev (fun k => trellisref13_Shaped.l2 k x3 x4 ((m[s]).length : Int) s i l m) (((m[s]).drop i).all (inrB x3) && NX) := by
  intro d
  induction d with
  | zero =>
    intro i hd hi
    rw [List.drop_eq_nil_of_le (by omega)]
    simp only [List.all_nil, Bool.true_and]
    exact Ev.step (fun k => by simp only [trellisref13_Shaped.l2]; rw [if_neg (by omega)]) hn
  | succ d ih =>
    intro i hd hi
    have hlt : i < (m[s]).length := by omega
    have h := ih (i + 1) (by omega) (by omega)
    rw [List.drop_eq_getElem_cons hlt]
    simp only [List.all_cons, inrB]
    have hs : ∀ k, trellisref13_Shaped.l2 (k + 1) x3 x4 ((m[s]).length : Int) s i l m = (if (m[s])[i] < -1 then some false else if (m[s])[i] ≥ x3 then some false else trellisref13_Shaped.l2 k x3 x4 ((m[s]).length : Int) s ((i + 1 : Nat) : Int) l m) := by
      intro k
      simp only [trellisref13_Shaped.l2]
      rw [if_pos (by omega), if_pos (by omega), if_pos (by omega), if_pos (by omega), rdL3_nat m s hs, if_pos (by omega), rd_nat (m[s]) i hlt, w64n (by omega)]
    refine Ev.step hs ?_
    by_cases h1 : (m[s])[i] < -1
    · simp only [if_pos h1, decide_eq_true h1, Bool.not_true, Bool.false_and]; exact Ev.now _
    · by_cases h2 : (m[s])[i] ≥ x3
      · simp only [if_neg h1, if_pos h2, decide_eq_true h2, Bool.not_true, Bool.and_false, Bool.false_and]; exact Ev.now _
      · simp only [if_neg h1, if_neg h2, decide_eq_false h1, decide_eq_false h2, Bool.not_false, Bool.true_and]
        exact h
theorem rsh_l1 (l : List (List S80)) (m : List (List Int)) (x3 x5 : Int) (s : Nat) (hs : s < l.length) (hr : (l[s]).length ≤ 9223372036854775807) (NX : Bool) (hn : Ev (fun k => trellisref13_Shaped.l2 k x3 ((l[s]).length : Int) x5 s ((0 : Nat) : Int) l m) NX) :
    ∀ (d i : Nat), (l[s]).length - i = d → i ≤ (l[s]).length → Ev (fun k => trellisref13_Shaped.l1 k x3 ((l[s]).length : Int) x5 s i l m) (((l[s]).drop i).all (fitsB x3) && NX) := by
  intro d
  induction d with
  | zero =>
    intro i hd hi
    rw [List.drop_eq_nil_of_le (by omega)]
    simp only [List.all_nil, Bool.true_and]
    exact Ev.step (fun k => by simp only [trellisref13_Shaped.l1]; rw [if_neg (by omega)]; rfl) hn
  | succ d ih =>
    intro i hd hi
    have hlt : i < (l[s]).length := by omega
    have h := ih (i + 1) (by omega) (by omega)
    rw [List.drop_eq_getElem_cons hlt]
    simp only [List.all_cons]
    have hs : ∀ k, trellisref13_Shaped.l1 (k + 1) x3 ((l[s]).length : Int) x5 s i l m = (trellisref13_fits.f k ((l[s])[i]).f0 ((l[s])[i]).f1 x3).bind fun t => (if t = true then trellisref13_Shaped.l1 k x3 ((l[s]).length : Int) x5 s ((i + 1 : Nat) : Int) l m else some false) := by
      intro k
      simp only [trellisref13_Shaped.l1]
      rw [if_pos (by omega), if_pos (by omega), if_pos (by omega), if_pos (by omega), rdL2_nat l s hs, if_pos (by omega), rdT_nat (l[s]) i hlt, w64n (by omega)]
    refine Ev.step hs (Ev.bind (rfits_ev _ _) ?_)
    cases fitsB x3 ((l[s])[i]) with
    | true => simpa using h
    | false => exact Ev.now _
theorem rsh_l0 (l : List (List S80)) (m : List (List Int)) (hl : l.length ≤ 2048) (hm : m.length = l.length) (hbl : ∀ x ∈ l, x.length ≤ 9223372036854775807) (hbm : ∀ x ∈ m, x.length ≤ 9223372036854775807) (x4 x5 : Int) :
    ∀ (d s : Nat), l.length - s = d → s ≤ l.length → Ev (fun k => trellisref13_Shaped.l0 k (l.length : Int) x4 x5 s l m) (shRows l.length x4 x5 (l.drop s) (m.drop s)) := by
  intro d
  induction d with
  | zero =>
    intro s hd hs
    rw [List.drop_eq_nil_of_le (by omega)]
    exact Ev.step (f := fun _ => some true) (fun k => by simp only [trellisref13_Shaped.l0]; rw [if_neg (by omega)]) (Ev.now _)
  | succ d ih =>
    intro s hd hs
    have hlt : s < l.length := by omega
    have hlm : s < m.length := by omega
    have h := ih (s + 1) (by omega) (by omega)
    rw [List.drop_eq_getElem_cons hlt, List.drop_eq_getElem_cons hlm]
    simp only [shRows]
    refine Ev.step (f := fun k => trellisref13_Shaped.j3 k (l.length : Int) x4 x5 s (!(decide (((l[s]).length : Int) = x4) && !(((m[s]).length : Int) != x5))) l m) (fun k => ?_) ?_
    · simp only [trellisref13_Shaped.l0]
      rw [if_pos (by omega), if_pos (by omega), if_pos (by omega), rdL2_nat l s hlt, rdL3_nat m s hlm]
      by_cases h1 : ((l[s]).length : Int) = x4
      · rw [if_pos h1, if_pos (by omega), decide_eq_true h1, Bool.true_and, Bool.not_not]
      · rw [if_neg h1, decide_eq_false h1, Bool.false_and, Bool.not_false]
    · cases hc : (decide (((l[s]).length : Int) = x4) && !(((m[s]).length : Int) != x5)) with
      | false => exact Ev.step (f := fun _ => some false) (fun k => by simp only [trellisref13_Shaped.j3]; rw [if_pos (by decide)]) (Ev.now _)
      | true =>
        simp only [Bool.true_and]
        simp only [Bool.and_eq_true, decide_eq_true_eq, Bool.not_eq_true', bne_eq_false_iff_eq] at hc
        obtain ⟨hc1, hc2⟩ := hc
        subst hc1
        subst hc2
        have h2 := rsh_l2 l m l.length ((l[s]).length : Int) s hlm (hbm _ (List.getElem_mem hlm)) _ (by rw [w64n (by omega)]; exact h) _ 0 rfl (Nat.zero_le _)
        have h1 := rsh_l1 l m l.length ((m[s]).length : Int) s hlt (hbl _ (List.getElem_mem hlt)) _ h2 _ 0 rfl (Nat.zero_le _)
        refine Ev.step (fun k => ?_) h1
        simp only [trellisref13_Shaped.j3]
        rw [if_neg (by decide)]
        rfl
theorem rsh_ev (l : List (List S80)) (m : List (List Int)) (hbl : ∀ x ∈ l, x.length ≤ 9223372036854775807) (hbm : ∀ x ∈ m, x.length ≤ 9223372036854775807) : Ev (fun k => trellisref13_Shaped.f k l m) (shB l m) := by
  unfold shB
  refine Ev.congr (f := fun k => trellisref13_Shaped.j0 k (l.length : Int) (!decide (1 ≤ l.length ∧ l.length ≤ 2048 ∧ m.length = l.length)) l m) (fun k => ?_) ?_
  · unfold trellisref13_Shaped.f
    by_cases h1 : (l.length : Int) < 1
    · rw [if_pos h1, decide_eq_false (by omega)]; rfl
    · rw [if_neg h1]
      by_cases h2 : (l.length : Int) > 2048
      · rw [if_pos h2, decide_eq_false (by omega)]; rfl
      · rw [if_neg h2]
        congr 1
        by_cases h3 : m.length = l.length
        · rw [decide_eq_true (by omega), h3]; simp
        · rw [decide_eq_false (by omega)]; simp; omega
  · by_cases hc : 1 ≤ l.length ∧ l.length ≤ 2048 ∧ m.length = l.length
    · obtain ⟨h1, h2, h3⟩ := hc
      rw [decide_eq_true (p := 1 ≤ l.length ∧ l.length ≤ 2048 ∧ m.length = l.length) ⟨h1, h2, h3⟩]
      refine Ev.step (f := fun k => trellisref13_Shaped.j1 k (l.length : Int) ((rd_L2 l 0).length : Int) ((rd_L3 m 0).length : Int) (!decide (1 ≤ (rd_L2 l 0).length ∧ (rd_L2 l 0).length ≤ 64 ∧ (rd_L3 m 0).length ≤ 128)) l m) (fun k => ?_) ?_
      · simp only [trellisref13_Shaped.j0]
        rw [if_neg (by decide), if_pos (by omega), if_pos (by omega)]
        by_cases h4 : ((rd_L2 l 0).length : Int) < 1
        · rw [if_pos h4, decide_eq_false (by omega)]; rfl
        · rw [if_neg h4]
          by_cases h5 : ((rd_L2 l 0).length : Int) > 64
          · rw [if_pos h5, decide_eq_false (by omega)]; rfl
          · rw [if_neg h5]
            congr 1
            by_cases h6 : (rd_L3 m 0).length ≤ 128
            · rw [decide_eq_true (p := 1 ≤ (rd_L2 l 0).length ∧ (rd_L2 l 0).length ≤ 64 ∧ (rd_L3 m 0).length ≤ 128) (by omega), decide_eq_false (by omega)]; rfl
            · rw [decide_eq_false (p := 1 ≤ (rd_L2 l 0).length ∧ (rd_L2 l 0).length ≤ 64 ∧ (rd_L3 m 0).length ≤ 128) (by omega), decide_eq_true (by omega)]; rfl
      · by_cases h4 : 1 ≤ (rd_L2 l 0).length ∧ (rd_L2 l 0).length ≤ 64 ∧ (rd_L3 m 0).length ≤ 128
        · rw [decide_eq_true h4, decide_eq_true (p := 1 ≤ l.length ∧ _) ⟨h1, h2, h3, h4⟩, Bool.true_and]
          refine Ev.step (fun k => ?_) (rsh_l0 l m h2 h3 hbl hbm _ _ _ 0 rfl (Nat.zero_le _))
          simp only [trellisref13_Shaped.j1]
          rw [if_neg (by decide)]; rfl
        · rw [decide_eq_false h4, decide_eq_false (p := 1 ≤ l.length ∧ _) (fun h => h4 h.2.2.2)]
          exact Ev.step (f := fun _ => some false) (fun k => by simp only [trellisref13_Shaped.j1]; rw [if_pos (by decide)]) (Ev.now _)
    · rw [decide_eq_false hc, decide_eq_false (p := 1 ≤ l.length ∧ _) (fun h => hc ⟨h.1, h.2.1, h.2.2.1⟩)]
      exact Ev.step (f := fun _ => some false) (fun k => by simp only [trellisref13_Shaped.j0]; rw [if_pos (by decide)]) (Ev.now _)

/-! ### counts -/
/-- A number in groups of seven bits. -/
def cnt (n : Nat) : List Int := if h : 128 ≤ n then ((n % 128 + 128 : Nat) : Int) :: cnt (n / 128) else [(n : Int)]
termination_by n
decreasing_by omega
theorem or128 : ∀ b : Fin 256, Go.bits .or .u8 (b.val : Int) 128 = ((b.val % 128 + 128 : Nat) : Int) := by decide +kernel
theorem or128' (n : Nat) : Go.bits .or .u8 ((n : Int) % 256) 128 = ((n % 128 + 128 : Nat) : Int) := by
  have h := or128 ⟨n % 256, Nat.mod_lt _ (by decide)⟩
  simp only at h
  rw [show ((n : Int) % 256) = ((n % 256 : Nat) : Int) by omega, h, Nat.mod_mod_of_dvd n (by decide : 128 ∣ 256)]
theorem cnt_len (n : Nat) : ∀ d, n < 128 ^ (d + 1) → (cnt n).length ≤ d + 1 := by
  intro d
  induction d generalizing n with
  | zero =>
    intro h
    unfold cnt
    rw [dif_neg (by omega)]
    simp
  | succ d ih =>
    intro h
    unfold cnt
    split
    · rw [List.length_cons]
      have := ih (n / 128) (by rw [Nat.div_lt_iff_lt_mul (by decide)]; rw [Nat.pow_succ] at h; exact h)
      omega
    · simp
theorem count_ev (N : Nat) : ∀ (n : Nat), n ≤ N → ∀ acc : List Int, acc.length + (cnt n).length < 140737488355328 → Ev (fun k => table_count.l0 k acc (n : Int)) (acc ++ cnt n) := by
  induction N with
  | zero =>
    intro n hn acc hl
    unfold cnt at hl ⊢
    rw [dif_neg (by omega)] at hl ⊢
    refine Ev.step (f := fun _ => some (acc ++ [(n : Int)])) (fun k => ?_) (Ev.now _)
    simp only [List.length_singleton] at hl
    simp only [table_count.l0]
    rw [if_neg (by omega), if_pos (by omega), Int.emod_eq_of_lt (by omega) (by omega)]
  | succ N ih =>
    intro n hn acc hl
    by_cases h : 128 ≤ n
    · unfold cnt at hl ⊢
      rw [dif_pos h] at hl ⊢
      simp only [List.length_cons] at hl
      have h2 := ih (n / 128) (by omega) (acc ++ [((n % 128 + 128 : Nat) : Int)]) (by simp; omega)
      rw [List.append_assoc, List.singleton_append] at h2
      refine Ev.step (fun k => ?_) h2
      simp only [table_count.l0]
      rw [if_pos (by omega), if_pos (by omega), or128']
      rfl
    · unfold cnt at hl ⊢
      rw [dif_neg h] at hl ⊢
      refine Ev.step (f := fun _ => some (acc ++ [(n : Int)])) (fun k => ?_) (Ev.now _)
      simp only [List.length_singleton] at hl
      simp only [table_count.l0]
      rw [if_neg (by omega), if_pos (by omega), Int.emod_eq_of_lt (by omega) (by omega)]
theorem rcount_ev (N : Nat) : ∀ (n : Nat), n ≤ N → n ≤ 9223372036854775807 → ∀ acc : List Int, acc.length + (cnt n).length < 140737488355328 → Ev (fun k => trellisref13_count.l0 k (n : Int) acc) (acc ++ cnt n) := by
  induction N with
  | zero =>
    intro n hn hb acc hl
    unfold cnt at hl ⊢
    rw [dif_neg (by omega)] at hl ⊢
    refine Ev.step (f := fun _ => some (acc ++ [(n : Int)])) (fun k => ?_) (Ev.now _)
    simp only [List.length_singleton] at hl
    simp only [trellisref13_count.l0]
    rw [if_neg (by omega), if_pos (by omega), Int.emod_eq_of_lt (by omega) (by omega)]
  | succ N ih =>
    intro n hn hb acc hl
    by_cases h : 128 ≤ n
    · unfold cnt at hl ⊢
      rw [dif_pos h] at hl ⊢
      simp only [List.length_cons] at hl
      have h2 := ih (n / 128) (by omega) (by omega) (acc ++ [((n % 128 + 128 : Nat) : Int)]) (by simp; omega)
      rw [List.append_assoc, List.singleton_append] at h2
      refine Ev.step (fun k => ?_) h2
      simp only [trellisref13_count.l0]
      have e1 : Int.tdiv (n : Int) 128 = ((n / 128 : Nat) : Int) := by rw [Int.tdiv_eq_ediv_of_nonneg (by omega)]; rfl
      have e2 : Int.tmod (n : Int) 128 = ((n % 128 : Nat) : Int) := by rw [Int.tmod_eq_emod_of_nonneg (by omega)]; rfl
      have e3 : wrap64 (((n / 128 : Nat) : Int)) = ((n / 128 : Nat) : Int) := by unfold wrap64; omega
      have e4 : wrap64 (((n % 128 : Nat) : Int) + 128) % 256 = ((n % 128 + 128 : Nat) : Int) := by unfold wrap64; omega
      rw [if_pos (by omega), if_pos (by omega), e1, e2, e3, e4]
    · unfold cnt at hl ⊢
      rw [dif_neg h] at hl ⊢
      refine Ev.step (f := fun _ => some (acc ++ [(n : Int)])) (fun k => ?_) (Ev.now _)
      simp only [List.length_singleton] at hl
      simp only [trellisref13_count.l0]
      rw [if_neg (by omega), if_pos (by omega), Int.emod_eq_of_lt (by omega) (by omega)]
end Go.Proofs.Ytcijanmckhlpiaa
