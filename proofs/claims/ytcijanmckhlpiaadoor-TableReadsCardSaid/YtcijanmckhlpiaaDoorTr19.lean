-- Texts of this seat, cut to what is used and merged (by shake.py).
import Derived.Test.YtcijanmckhlpiaaDoorTr15
import Derived.Test.YtcijanmckhlpiaaDoorTr16
import Derived.Test.YtcijanmckhlpiaaDoorTr18
namespace Go.Proofs.YtcijanmckhlpiaaDoor
open Go.RowKit Go.Proofs.YtcijanmckhlpiaaDoorW.PrintWords Go.Proofs.YtcijanmckhlpiaaDoorW.PrintLast Go.Proofs.YtcijanmckhlpiaaDoorW.PrintMore Go.Proofs.YtcijanmckhlpiaaDoor.PTableBack
set_option linter.unusedVariables false
set_option linter.unusedSimpArgs false
namespace Enc
theorem w64n {i : Nat} (h : i + 1 ≤ 9223372036854775807) : wrap64 ((i : Int) + 1) = ((i + 1 : Nat) : Int) := by unfold wrap64; omega
theorem rdT_nat (row : List S93) (i : Nat) (h : i < row.length) : rd_T93 row (i : Int) = row[i] := by
  unfold rd_T93
  rw [Int.toNat_natCast, List.getD_eq_getElem?_getD, List.getElem?_eq_getElem h]; rfl
theorem rd_nat (row : List Int) (i : Nat) (h : i < row.length) : rd row (i : Int) = row[i] := by
  unfold rd
  rw [Int.toNat_natCast, List.getD_eq_getElem?_getD, List.getElem?_eq_getElem h]; rfl
theorem rdL2_nat (l : List (List S93)) (i : Nat) (h : i < l.length) : rd_L2 l (i : Int) = l[i] := by
  unfold rd_L2
  rw [Int.toNat_natCast, List.getD_eq_getElem?_getD, List.getElem?_eq_getElem h]; rfl
theorem rdL3_nat (l : List (List Int)) (i : Nat) (h : i < l.length) : rd_L3 l (i : Int) = l[i] := by
  unfold rd_L3
  rw [Int.toNat_natCast, List.getD_eq_getElem?_getD, List.getElem?_eq_getElem h]; rfl
def fitsB (n : Int) (a : S93) : Bool := if a.f0 = 0 ∨ a.f0 = 3 then a.f1 == 0 else if a.f0 = 1 then (if a.f1 ≥ 0 then decide (a.f1 < n) else false) else if a.f0 = 2 then (if a.f1 ≥ 0 then decide (a.f1 < 256) else false) else false
theorem fits_ev (a : S93) (n : Int) : Ev (fun k => table_fits.f k a.f0 a.f1 n) (fitsB n a) := by
  refine Ev.congr (f := fun k => table_fits.j0 k n a.f0 (decide (a.f0 = 0 ∨ a.f0 = 3)) a.f0 a.f1) (fun k => ?_) ?_
  · unfold table_fits.f
    by_cases h : a.f0 = 0
    · simp [h]
    · rw [if_neg h]
      congr 1
      by_cases h3 : a.f0 = 3 <;> simp [h, h3]
  · refine Ev.step (f := fun _ => some (fitsB n a)) (fun k => ?_) (Ev.now _)
    simp only [table_fits.j0, fitsB, decide_eq_true_eq]
    split
    · rfl
    · split
      · split <;> rfl
      · split
        · split <;> rfl
        · rfl
def inrB (n : Int) (g : Int) : Bool := !(decide (g < -1)) && !(decide (g ≥ n))
def shRows (n terms syms : Int) : List (List S93) → List (List Int) → Bool
  | r :: rs, g :: gs => decide ((r.length : Int) = terms) && !((g.length : Int) != syms) && (r.all (fitsB n) && (g.all (inrB n) && shRows n terms syms rs gs))
  | _, _ => true
def shB (l : List (List S93)) (m : List (List Int)) : Bool :=
  decide (1 ≤ l.length ∧ l.length ≤ 2048 ∧ m.length = l.length ∧ 1 ≤ (rd_L2 l 0).length ∧ (rd_L2 l 0).length ≤ 64 ∧ (rd_L3 m 0).length ≤ 128) && shRows l.length (rd_L2 l 0).length (rd_L3 m 0).length l m
theorem sh_l2 (l : List (List S93)) (m : List (List Int)) (x3 x4 x5 x47 : Int) (s : Nat) (g : List Int) (hg : g.length ≤ 9223372036854775807) (NX : Bool) (hn : Ev (fun k => table_shaped.l0 k x3 x4 x5 x47 (wrap64 ((s : Int) + 1)) l m) NX) :
    ∀ (d i : Nat), g.length - i = d → i ≤ g.length → Ev (fun k => table_shaped.l2 k x3 x4 x5 x47 s g (g.length : Int) i l m) ((g.drop i).all (inrB x3) && NX) := by
  intro d
  induction d with
  | zero =>
    intro i hd hi
    rw [List.drop_eq_nil_of_le (by omega)]
    simp only [List.all_nil, Bool.true_and]
    exact Ev.step (fun k => by simp only [table_shaped.l2]; rw [if_neg (by omega)]) hn
  | succ d ih =>
    intro i hd hi
    have hlt : i < g.length := by omega
    have h := ih (i + 1) (by omega) (by omega)
    rw [List.drop_eq_getElem_cons hlt]
    simp only [List.all_cons, inrB]
    have hs : ∀ k, table_shaped.l2 (k + 1) x3 x4 x5 x47 s g (g.length : Int) i l m = (if g[i] < -1 then some false else if g[i] ≥ x3 then some false else table_shaped.l2 k x3 x4 x5 x47 s g (g.length : Int) ((i + 1 : Nat) : Int) l m) := by
      intro k
      simp only [table_shaped.l2]
      rw [if_pos (by omega), if_pos (by omega), if_pos (by omega), rd_nat g i hlt, w64n (by omega)]
    refine Ev.step hs ?_
    by_cases h1 : g[i] < -1
    · simp only [if_pos h1, decide_eq_true h1, Bool.not_true, Bool.false_and]; exact Ev.now _
    · by_cases h2 : g[i] ≥ x3
      · simp only [if_neg h1, if_pos h2, decide_eq_true h2, Bool.not_true, Bool.and_false, Bool.false_and]; exact Ev.now _
      · simp only [if_neg h1, if_neg h2, decide_eq_false h1, decide_eq_false h2, Bool.not_false, Bool.true_and]
        exact h
theorem sh_l1 (l : List (List S93)) (m : List (List Int)) (x3 x4 x5 x47 : Int) (s : Nat) (hs : s < m.length) (r : List S93) (hr : r.length ≤ 9223372036854775807) (NX : Bool) (hn : Ev (fun k => table_shaped.l2 k x3 x4 x5 x47 s (m[s]) ((m[s]).length : Int) ((0 : Nat) : Int) l m) NX) :
    ∀ (d i : Nat), r.length - i = d → i ≤ r.length → Ev (fun k => table_shaped.l1 k x3 x4 x5 s x47 s r (r.length : Int) i l m) ((r.drop i).all (fitsB x3) && NX) := by
  intro d
  induction d with
  | zero =>
    intro i hd hi
    rw [List.drop_eq_nil_of_le (by omega)]
    simp only [List.all_nil, Bool.true_and]
    exact Ev.step (fun k => by simp only [table_shaped.l1]; rw [if_neg (by omega), if_pos (by omega), if_pos (by omega), rdL3_nat m s hs]; rfl) hn
  | succ d ih =>
    intro i hd hi
    have hlt : i < r.length := by omega
    have h := ih (i + 1) (by omega) (by omega)
    rw [List.drop_eq_getElem_cons hlt]
    simp only [List.all_cons]
    have hs : ∀ k, table_shaped.l1 (k + 1) x3 x4 x5 s x47 s r (r.length : Int) i l m = (table_fits.f k (r[i]).f0 (r[i]).f1 x3).bind fun t => (if t = true then table_shaped.l1 k x3 x4 x5 s x47 s r (r.length : Int) ((i + 1 : Nat) : Int) l m else some false) := by
      intro k
      simp only [table_shaped.l1]
      rw [if_pos (by omega), if_pos (by omega), if_pos (by omega), rdT_nat r i hlt, w64n (by omega)]
    refine Ev.step hs (Ev.bind (fits_ev _ _) ?_)
    cases fitsB x3 r[i] with
    | true => simpa using h
    | false => exact Ev.now _
theorem sh_l0 (l : List (List S93)) (m : List (List Int)) (hl : l.length ≤ 2048) (hm : m.length = l.length) (hbl : ∀ x ∈ l, x.length ≤ 9223372036854775807) (hbm : ∀ x ∈ m, x.length ≤ 9223372036854775807) (x4 x5 : Int) :
    ∀ (d s : Nat), l.length - s = d → s ≤ l.length → Ev (fun k => table_shaped.l0 k (l.length : Int) x4 x5 (l.length : Int) s l m) (shRows l.length x4 x5 (l.drop s) (m.drop s)) := by
  intro d
  induction d with
  | zero =>
    intro s hd hs
    rw [List.drop_eq_nil_of_le (by omega)]
    exact Ev.step (f := fun _ => some true) (fun k => by simp only [table_shaped.l0]; rw [if_neg (by omega)]) (Ev.now _)
  | succ d ih =>
    intro s hd hs
    have hlt : s < l.length := by omega
    have hlm : s < m.length := by omega
    have h := ih (s + 1) (by omega) (by omega)
    rw [List.drop_eq_getElem_cons hlt, List.drop_eq_getElem_cons hlm]
    simp only [shRows]
    refine Ev.step (f := fun k => table_shaped.j3 k (l.length : Int) x4 x5 s (l.length : Int) s (!(decide (((l[s]).length : Int) = x4) && !(((m[s]).length : Int) != x5))) l m) (fun k => ?_) ?_
    · simp only [table_shaped.l0]
      rw [if_pos (by omega), if_pos (by omega), if_pos (by omega), rdL2_nat l s hlt, rdL3_nat m s hlm]
      by_cases h1 : ((l[s]).length : Int) = x4
      · rw [if_pos h1, if_pos (by omega), decide_eq_true h1, Bool.true_and, Bool.not_not]
      · rw [if_neg h1, decide_eq_false h1, Bool.false_and, Bool.not_false]
    · cases hc : (decide (((l[s]).length : Int) = x4) && !(((m[s]).length : Int) != x5)) with
      | false => exact Ev.step (f := fun _ => some false) (fun k => by simp only [table_shaped.j3]; rw [if_pos (by decide)]) (Ev.now _)
      | true =>
        simp only [Bool.true_and]
        have h2 := sh_l2 l m l.length x4 x5 l.length s (m[s]) (hbm _ (List.getElem_mem hlm)) _ (by rw [w64n (by omega)]; exact h) _ 0 rfl (Nat.zero_le _)
        have h1 := sh_l1 l m l.length x4 x5 l.length s hlm (l[s]) (hbl _ (List.getElem_mem hlt)) _ h2 _ 0 rfl (Nat.zero_le _)
        refine Ev.step (fun k => ?_) h1
        simp only [table_shaped.j3]
        rw [if_neg (by decide), if_pos (by omega), if_pos (by omega), rdL2_nat l s hlt]
        rfl
theorem sh_ev (l : List (List S93)) (m : List (List Int)) (hbl : ∀ x ∈ l, x.length ≤ 9223372036854775807) (hbm : ∀ x ∈ m, x.length ≤ 9223372036854775807) : Ev (fun k => table_shaped.f k l m) (shB l m) := by
  unfold shB
  refine Ev.congr (f := fun k => table_shaped.j0 k (l.length : Int) (!decide (1 ≤ l.length ∧ l.length ≤ 2048 ∧ m.length = l.length)) l m) (fun k => ?_) ?_
  · unfold table_shaped.f
    by_cases h1 : (l.length : Int) = 0
    · rw [if_pos h1, decide_eq_false (by omega)]; rfl
    · rw [if_neg h1]
      by_cases h2 : (l.length : Int) > 2048
      · rw [if_pos h2, decide_eq_false (by omega)]; rfl
      · rw [if_neg h2]
        congr 1
        by_cases h3 : m.length = l.length
        · rw [decide_eq_true (by omega), h3]; simp
        · rw [decide_eq_false (by omega)]; simp; omega
  · by_cases hc : 1 ≤ l.length ∧ l.length ≤ 2048 ∧ m.length = l.length
    · obtain ⟨h1, h2, h3⟩ := hc
      rw [decide_eq_true (p := 1 ≤ l.length ∧ l.length ≤ 2048 ∧ m.length = l.length) ⟨h1, h2, h3⟩]
      refine Ev.step (f := fun k => table_shaped.j1 k (l.length : Int) ((rd_L2 l 0).length : Int) ((rd_L3 m 0).length : Int) (!decide (1 ≤ (rd_L2 l 0).length ∧ (rd_L2 l 0).length ≤ 64 ∧ (rd_L3 m 0).length ≤ 128)) l m) (fun k => ?_) ?_
      · simp only [table_shaped.j0]
        rw [if_neg (by decide), if_pos (by omega), if_pos (by omega)]
        by_cases h4 : ((rd_L2 l 0).length : Int) = 0
        · rw [if_pos h4, decide_eq_false (by omega)]; rfl
        · rw [if_neg h4]
          by_cases h5 : ((rd_L2 l 0).length : Int) > 64
          · rw [if_pos h5, decide_eq_false (by omega)]; rfl
          · rw [if_neg h5]
            congr 1
            by_cases h6 : (rd_L3 m 0).length ≤ 128
            · rw [decide_eq_true (p := 1 ≤ (rd_L2 l 0).length ∧ (rd_L2 l 0).length ≤ 64 ∧ (rd_L3 m 0).length ≤ 128) (by omega), decide_eq_false (by omega)]; rfl
            · rw [decide_eq_false (p := 1 ≤ (rd_L2 l 0).length ∧ (rd_L2 l 0).length ≤ 64 ∧ (rd_L3 m 0).length ≤ 128) (by omega), decide_eq_true (by omega)]; rfl
      · by_cases h4 : 1 ≤ (rd_L2 l 0).length ∧ (rd_L2 l 0).length ≤ 64 ∧ (rd_L3 m 0).length ≤ 128
        · rw [decide_eq_true h4, decide_eq_true (p := 1 ≤ l.length ∧ _) ⟨h1, h2, h3, h4⟩, Bool.true_and]
          refine Ev.step (fun k => ?_) (sh_l0 l m h2 h3 hbl hbm _ _ _ 0 rfl (Nat.zero_le _))
          simp only [table_shaped.j1]
          rw [if_neg (by decide)]; rfl
        · rw [decide_eq_false h4, decide_eq_false (p := 1 ≤ l.length ∧ _) (fun h => h4 h.2.2.2)]
          exact Ev.step (f := fun _ => some false) (fun k => by simp only [table_shaped.j1]; rw [if_pos (by decide)]) (Ev.now _)
    · rw [decide_eq_false hc, decide_eq_false (p := 1 ≤ l.length ∧ _) (fun h => hc ⟨h.1, h.2.1, h.2.2.1⟩)]
      exact Ev.step (f := fun _ => some false) (fun k => by simp only [table_shaped.j0]; rw [if_pos (by decide)]) (Ev.now _)
def cnt (n : Nat) : List Int := if h : 128 ≤ n then ((n % 128 + 128 : Nat) : Int) :: cnt (n / 128) else [(n : Int)]
termination_by n
decreasing_by omega
theorem or128 : ∀ b : Fin 256, Go.bits .or .u8 (b.val : Int) 128 = ((b.val % 128 + 128 : Nat) : Int) := by decide +kernel
theorem or128' (n : Nat) : Go.bits .or .u8 ((n : Int) % 256) 128 = ((n % 128 + 128 : Nat) : Int) := by
  have h := or128 ⟨n % 256, Nat.mod_lt _ (by decide)⟩
  simp only at h
  rw [show ((n : Int) % 256) = ((n % 256 : Nat) : Int) by omega, h, Nat.mod_mod_of_dvd n (by decide : 128 ∣ 256)]
theorem cnt_len (n : Nat) : ∀ d, n < 128 ^ (d + 1) → (cnt n).length ≤ d + 1 := by
  intro d
  induction d generalizing n with
  | zero =>
    intro h
    unfold cnt
    rw [dif_neg (by omega)]
    simp
  | succ d ih =>
    intro h
    unfold cnt
    split
    · rw [List.length_cons]
      have := ih (n / 128) (by rw [Nat.div_lt_iff_lt_mul (by decide)]; rw [Nat.pow_succ] at h; exact h)
      omega
    · simp
theorem count_ev (N : Nat) : ∀ (n : Nat), n ≤ N → ∀ acc : List Int, acc.length + (cnt n).length < 140737488355328 → Ev (fun k => table_count.l0 k acc (n : Int)) (acc ++ cnt n) := by
  induction N with
  | zero =>
    intro n hn acc hl
    unfold cnt at hl ⊢
    rw [dif_neg (by omega)] at hl ⊢
    refine Ev.step (f := fun _ => some (acc ++ [(n : Int)])) (fun k => ?_) (Ev.now _)
    simp only [List.length_singleton] at hl
    simp only [table_count.l0]
    rw [if_neg (by omega), if_pos (by omega), Int.emod_eq_of_lt (by omega) (by omega)]
  | succ N ih =>
    intro n hn acc hl
    by_cases h : 128 ≤ n
    · unfold cnt at hl ⊢
      rw [dif_pos h] at hl ⊢
      simp only [List.length_cons] at hl
      have h2 := ih (n / 128) (by omega) (acc ++ [((n % 128 + 128 : Nat) : Int)]) (by simp; omega)
      rw [List.append_assoc, List.singleton_append] at h2
      refine Ev.step (fun k => ?_) h2
      simp only [table_count.l0]
      rw [if_pos (by omega), if_pos (by omega), or128']
      rfl
    · unfold cnt at hl ⊢
      rw [dif_neg h] at hl ⊢
      refine Ev.step (f := fun _ => some (acc ++ [(n : Int)])) (fun k => ?_) (Ev.now _)
      simp only [List.length_singleton] at hl
      simp only [table_count.l0]
      rw [if_neg (by omega), if_pos (by omega), Int.emod_eq_of_lt (by omega) (by omega)]
def aNum (a : S93) : Nat := if a.f0 = 0 then 0 else if a.f0 = 3 then 1 else if a.f0 = 1 then (2 * a.f1 + 2).toNat else (2 * a.f1 + 3).toNat
def aE (a : S93) : List Int := cnt (aNum a)
def gE (g : Int) : List Int := cnt (g + 1).toNat
def fitsP (a : S93) : Prop := (a.f0 = 0 ∨ a.f0 = 3) ∨ ((a.f0 = 1 ∨ a.f0 = 2) ∧ 0 ≤ a.f1 ∧ a.f1 < 2048)
def inP (g : Int) : Prop := -1 ≤ g ∧ g < 2048
def rowsA (l : List (List S93)) : List Int := l.flatMap fun r => r.flatMap aE
def rowsG (m : List (List Int)) : List Int := m.flatMap fun g => g.flatMap gE
theorem count_f {acc : List Int} {n : Nat} {x : Int} (hx : x = (n : Int)) (h : acc.length + (cnt n).length < 140737488355328) : Ev (fun k => table_count.f k acc x) (acc ++ cnt n) := by
  subst hx
  exact count_ev n n (Nat.le_refl _) acc h
theorem enc_l4 (m : List (List Int)) (s : Nat) (g : List Int) (hg : g.length ≤ 9223372036854775807) (hin : ∀ x ∈ g, inP x) (rest : List Int)
    (hn : ∀ acc : List Int, (acc ++ rest).length < 140737488355328 → Ev (fun k => table_Encode.l3 k acc m (m.length : Int) (wrap64 ((s : Int) + 1))) (strOfNums (acc ++ rest))) :
    ∀ (d i : Nat), g.length - i = d → i ≤ g.length → ∀ acc : List Int, (acc ++ ((g.drop i).flatMap gE ++ rest)).length < 140737488355328 → Ev (fun k => table_Encode.l4 k acc m (m.length : Int) s g (g.length : Int) i) (strOfNums (acc ++ ((g.drop i).flatMap gE ++ rest))) := by
  intro d
  induction d with
  | zero =>
    intro i hd hi acc hl
    rw [List.drop_eq_nil_of_le (by omega)] at hl ⊢
    exact Ev.step (fun k => by simp only [table_Encode.l4]; rw [if_neg (by omega)]) (hn acc hl)
  | succ d ih =>
    intro i hd hi acc hl
    have hlt : i < g.length := by omega
    rw [List.drop_eq_getElem_cons hlt] at hl ⊢
    rw [List.flatMap_cons, List.append_assoc, ← List.append_assoc] at hl ⊢
    have hx := hin _ (List.getElem_mem hlt)
    have h := ih (i + 1) (by omega) (by omega) (acc ++ gE g[i]) hl
    refine Ev.step (fun k => ?_) (Ev.bind (f := fun k t => table_Encode.l4 k t m (m.length : Int) s g (g.length : Int) ((i + 1 : Nat) : Int)) (count_f (n := (g[i] + 1).toNat) (x := wrap64 (g[i] + 1)) (by unfold inP at hx; unfold wrap64; omega) (by simp only [List.length_append, gE] at hl; omega)) h)
    simp only [table_Encode.l4]
    rw [if_pos (by omega), if_pos (by omega), if_pos (by omega), rd_nat g i hlt, w64n (by omega)]
theorem enc_l3 (m : List (List Int)) (hm : m.length ≤ 2048) (hbm : ∀ x ∈ m, x.length ≤ 9223372036854775807) (hin : ∀ x ∈ m, ∀ y ∈ x, inP y) : ∀ (d s : Nat), m.length - s = d → s ≤ m.length → ∀ acc : List Int, (acc ++ rowsG (m.drop s)).length < 140737488355328 →
    Ev (fun k => table_Encode.l3 k acc m (m.length : Int) s) (strOfNums (acc ++ rowsG (m.drop s))) := by
  intro d
  induction d with
  | zero =>
    intro s hd hs acc hl
    rw [List.drop_eq_nil_of_le (by omega)] at hl ⊢
    refine Ev.step (f := fun _ => some (strOfNums (acc ++ rowsG []))) (fun k => ?_) (Ev.now _)
    simp only [table_Encode.l3]
    rw [if_neg (by omega)]
    simp [rowsG]
  | succ d ih =>
    intro s hd hs acc hl
    have hlt : s < m.length := by omega
    rw [List.drop_eq_getElem_cons hlt] at hl ⊢
    unfold rowsG at hl ⊢
    rw [List.flatMap_cons] at hl ⊢
    refine Ev.step (fun k => ?_) (enc_l4 m s (m[s]) (hbm _ (List.getElem_mem hlt)) (hin _ (List.getElem_mem hlt)) (rowsG (m.drop (s + 1))) (fun acc' h' => by rw [w64n (by omega)]; exact ih (s + 1) (by omega) (by omega) acc' h') _ 0 rfl (Nat.zero_le _) acc hl)
    simp only [table_Encode.l3]
    rw [if_pos (by omega), if_pos (by omega), if_pos (by omega), rdL3_nat m s hlt]
    rfl
theorem enc_l2 (l : List (List S93)) (m : List (List Int)) (s : Nat) (r : List S93) (hr : r.length ≤ 9223372036854775807) (hin : ∀ x ∈ r, fitsP x) (rest : List Int)
    (hn : ∀ acc : List Int, (acc ++ rest).length < 140737488355328 → Ev (fun k => table_Encode.l1 k acc l (l.length : Int) (wrap64 ((s : Int) + 1)) l m) (strOfNums (acc ++ rest))) :
    ∀ (d i : Nat), r.length - i = d → i ≤ r.length → ∀ acc : List Int, (acc ++ ((r.drop i).flatMap aE ++ rest)).length < 140737488355328 → Ev (fun k => table_Encode.l2 k acc l (l.length : Int) s r (r.length : Int) i l m) (strOfNums (acc ++ ((r.drop i).flatMap aE ++ rest))) := by
  intro d
  induction d with
  | zero =>
    intro i hd hi acc hl
    rw [List.drop_eq_nil_of_le (by omega)] at hl ⊢
    exact Ev.step (fun k => by simp only [table_Encode.l2]; rw [if_neg (by omega)]) (hn acc hl)
  | succ d ih =>
    intro i hd hi acc hl
    have hlt : i < r.length := by omega
    rw [List.drop_eq_getElem_cons hlt] at hl ⊢
    rw [List.flatMap_cons, List.append_assoc, ← List.append_assoc] at hl ⊢
    have hx := hin _ (List.getElem_mem hlt)
    have h := ih (i + 1) (by omega) (by omega) (acc ++ aE r[i]) hl
    have hc : acc.length + (cnt (aNum r[i])).length < 140737488355328 := by simp only [List.length_append, aE] at hl; omega
    have key : ∀ x : Int, x = ((aNum r[i] : Nat) : Int) → Ev (fun k => (table_count.f k acc x).bind fun t => table_Encode.l2 k t l (l.length : Int) s r (r.length : Int) ((i + 1 : Nat) : Int) l m) (strOfNums (acc ++ aE r[i] ++ ((r.drop (i + 1)).flatMap aE ++ rest))) := by
      intro x hx
      exact Ev.bind (f := fun k t => table_Encode.l2 k t l (l.length : Int) s r (r.length : Int) ((i + 1 : Nat) : Int) l m) (count_f hx hc) h
    generalize hz : r[i] = z at *
    unfold fitsP at hx
    by_cases h0 : z.f0 = 0
    · refine Ev.step (fun k => ?_) (key 0 (by simp [aNum, h0]))
      simp only [table_Encode.l2]
      rw [if_pos (by omega), if_pos (by omega), if_pos (by omega), rdT_nat r i hlt, hz, if_pos h0, w64n (by omega)]
    · by_cases h3 : z.f0 = 3
      · refine Ev.step (fun k => ?_) (key 1 (by simp [aNum, h3]))
        simp only [table_Encode.l2]
        rw [if_pos (by omega), if_pos (by omega), if_pos (by omega), rdT_nat r i hlt, hz, if_neg h0, if_pos h3, w64n (by omega)]
      · by_cases h1 : z.f0 = 1
        · refine Ev.step (fun k => ?_) (key (wrap64 ((wrap64 (2 * z.f1)) + 2)) (by unfold aNum; rw [if_neg h0, if_neg h3, if_pos h1]; unfold wrap64; omega))
          simp only [table_Encode.l2]
          rw [if_pos (by omega), if_pos (by omega), if_pos (by omega), rdT_nat r i hlt, hz, if_neg h0, if_neg h3, if_pos h1, w64n (by omega)]
        · refine Ev.step (fun k => ?_) (key (wrap64 ((wrap64 (2 * z.f1)) + 3)) (by unfold aNum; rw [if_neg h0, if_neg h3, if_neg h1]; unfold wrap64; omega))
          simp only [table_Encode.l2]
          rw [if_pos (by omega), if_pos (by omega), if_pos (by omega), rdT_nat r i hlt, hz, if_neg h0, if_neg h3, if_neg h1, if_pos (by omega), w64n (by omega)]
theorem enc_l1 (l : List (List S93)) (m : List (List Int)) (hl0 : l.length ≤ 2048) (hm : m.length ≤ 2048) (hbl : ∀ x ∈ l, x.length ≤ 9223372036854775807) (hbm : ∀ x ∈ m, x.length ≤ 9223372036854775807) (hinl : ∀ x ∈ l, ∀ y ∈ x, fitsP y) (hin : ∀ x ∈ m, ∀ y ∈ x, inP y) :
    ∀ (d s : Nat), l.length - s = d → s ≤ l.length → ∀ acc : List Int, (acc ++ (rowsA (l.drop s) ++ rowsG m)).length < 140737488355328 →
    Ev (fun k => table_Encode.l1 k acc l (l.length : Int) s l m) (strOfNums (acc ++ (rowsA (l.drop s) ++ rowsG m))) := by
  intro d
  induction d with
  | zero =>
    intro s hd hs acc hl
    rw [List.drop_eq_nil_of_le (by omega)] at hl ⊢
    refine Ev.step (fun k => ?_) (enc_l3 m hm hbm hin _ 0 rfl (Nat.zero_le _) acc hl)
    simp only [table_Encode.l1]
    rw [if_neg (by omega)]
    rfl
  | succ d ih =>
    intro s hd hs acc hl
    have hlt : s < l.length := by omega
    rw [List.drop_eq_getElem_cons hlt] at hl ⊢
    unfold rowsA at hl ⊢
    rw [List.flatMap_cons, List.append_assoc] at hl ⊢
    refine Ev.step (fun k => ?_) (enc_l2 l m s (l[s]) (hbl _ (List.getElem_mem hlt)) (hinl _ (List.getElem_mem hlt)) (rowsA (l.drop (s + 1)) ++ rowsG m) (fun acc' h' => by rw [w64n (by omega)]; exact ih (s + 1) (by omega) (by omega) acc' h') _ 0 rfl (Nat.zero_le _) acc hl)
    simp only [table_Encode.l1]
    rw [if_pos (by omega), if_pos (by omega), if_pos (by omega), rdL2_nat l s hlt]
    rfl
theorem fitsP_of {n : Int} {a : S93} (hn : n ≤ 2048) (h : fitsB n a = true) : fitsP a := by
  unfold fitsB at h
  unfold fitsP
  split at h
  · rename_i h1; exact .inl h1
  · split at h
    · rename_i h1
      split at h
      · simp at h; exact .inr ⟨.inl h1, by omega, by omega⟩
      · cases h
    · split at h
      · rename_i h1
        split at h
        · simp at h; exact .inr ⟨.inr h1, by omega, by omega⟩
        · cases h
      · cases h
theorem inP_of {n g : Int} (hn : n ≤ 2048) (h : inrB n g = true) : inP g := by
  unfold inrB at h
  unfold inP
  simp at h
  omega
theorem shRows_ok (n t y : Int) : ∀ (l : List (List S93)) (m : List (List Int)), l.length = m.length → shRows n t y l m = true → (∀ x ∈ l, (x.length : Int) = t ∧ x.all (fitsB n) = true) ∧ (∀ g ∈ m, (g.length : Int) = y ∧ g.all (inrB n) = true)
  | [], [], _, _ => ⟨fun x hx => (by cases hx), fun x hx => (by cases hx)⟩
  | [], g :: gs, h, _ => by simp at h
  | r :: rs, [], h, _ => by simp at h
  | r :: rs, g :: gs, hl, h => by
    simp only [shRows, Bool.and_eq_true, decide_eq_true_eq, Bool.not_eq_true', bne_eq_false_iff_eq] at h
    obtain ⟨⟨h1, h2⟩, h3, h4, h5⟩ := h
    obtain ⟨h6, h7⟩ := shRows_ok n t y rs gs (by simpa using hl) h5
    refine ⟨fun x hx => ?_, fun x hx => ?_⟩
    · rcases List.mem_cons.1 hx with rfl | hx
      · exact ⟨h1, h3⟩
      · exact h6 x hx
    · rcases List.mem_cons.1 hx with rfl | hx
      · exact ⟨h2, h4⟩
      · exact h7 x hx
theorem flat_len {α : Type} (f : α → List Int) (c : Nat) (l : List α) (h : ∀ x ∈ l, (f x).length ≤ c) : (l.flatMap f).length ≤ l.length * c := by
  induction l with
  | nil => simp
  | cons a r ih =>
    rw [List.flatMap_cons, List.length_append, List.length_cons, Nat.add_mul, Nat.one_mul]
    have h1 := h a List.mem_cons_self
    have h2 := ih (fun x hx => h x (List.mem_cons_of_mem _ hx))
    omega
theorem aE_len {a : S93} (h : fitsP a) : (aE a).length ≤ 3 := by
  refine cnt_len _ 2 ?_
  unfold fitsP at h
  unfold aNum
  split <;> (try split) <;> (try split) <;> omega
theorem gE_len {g : Int} (h : inP g) : (gE g).length ≤ 3 := by
  refine cnt_len _ 2 ?_
  unfold inP at h
  omega
def image (l : List (List S93)) (m : List (List Int)) : List Int := [84, 1] ++ cnt l.length ++ cnt (rd_L2 l 0).length ++ cnt (rd_L3 m 0).length ++ (rowsA l ++ rowsG m)
def encB (l : List (List S93)) (m : List (List Int)) : ByteArray := if shB l m = true then strOfNums (image l m) else ⟨#[]⟩
structure Shp (l : List (List S93)) (m : List (List Int)) : Prop where
  l1 : 1 ≤ l.length
  l2 : l.length ≤ 2048
  ml : m.length = l.length
  t2 : (rd_L2 l 0).length ≤ 64
  y2 : (rd_L3 m 0).length ≤ 128
  ra : ∀ x ∈ l, x.length ≤ 64
  rg : ∀ x ∈ m, x.length ≤ 128
  fa : ∀ x ∈ l, ∀ y ∈ x, fitsP y
  fg : ∀ x ∈ m, ∀ y ∈ x, inP y
theorem shp_of {l : List (List S93)} {m : List (List Int)} (h : shB l m = true) : Shp l m := by
  unfold shB at h
  simp only [Bool.and_eq_true, decide_eq_true_eq] at h
  obtain ⟨⟨h1, h2, h3, h4, h5, h6⟩, h7⟩ := h
  obtain ⟨h8, h9⟩ := shRows_ok _ _ _ l m h3.symm h7
  refine ⟨h1, h2, h3, h5, h6, fun x hx => ?_, fun x hx => ?_, fun x hx y hy => ?_, fun x hx y hy => ?_⟩
  · have := (h8 x hx).1; omega
  · have := (h9 x hx).1; omega
  · exact fitsP_of (by omega) (List.all_eq_true.1 (h8 x hx).2 y hy)
  · exact inP_of (by omega) (List.all_eq_true.1 (h9 x hx).2 y hy)
theorem rowsA_len {l : List (List S93)} {m : List (List Int)} (h : Shp l m) : (rowsA l).length ≤ 393216 := by
  have := flat_len (fun r => r.flatMap aE) 192 l (fun x hx => by
    have h1 := flat_len aE 3 x (fun y hy => aE_len (h.fa x hx y hy))
    have := h.ra x hx
    omega)
  have h2 := Nat.mul_le_mul_right 192 h.l2
  unfold rowsA
  omega
theorem rowsG_len {l : List (List S93)} {m : List (List Int)} (h : Shp l m) : (rowsG m).length ≤ 786432 := by
  have := flat_len (fun r => r.flatMap gE) 384 m (fun x hx => by
    have h1 := flat_len gE 3 x (fun y hy => gE_len (h.fg x hx y hy))
    have := h.rg x hx
    omega)
  have h2 := Nat.mul_le_mul_right 384 h.l2
  rw [h.ml] at this
  unfold rowsG
  omega
theorem cnt3 {n : Nat} (h : n ≤ 2048) : (cnt n).length ≤ 3 := cnt_len n 2 (by omega)
theorem image_len {l : List (List S93)} {m : List (List Int)} (h : Shp l m) : (image l m).length < 2000000 := by
  have h1 := rowsA_len h
  have h2 := rowsG_len h
  have h3 := cnt3 h.l2
  have h4 := cnt3 (n := (rd_L2 l 0).length) (by have := h.t2; omega)
  have h5 := cnt3 (n := (rd_L3 m 0).length) (by have := h.y2; omega)
  unfold image
  simp only [List.length_append, List.length_cons, List.length_nil]
  omega
theorem enc_ev (l : List (List S93)) (m : List (List Int)) (hbl : ∀ x ∈ l, x.length ≤ 9223372036854775807) (hbm : ∀ x ∈ m, x.length ≤ 9223372036854775807) : Ev (fun k => table_Encode.f k l m) (encB l m) := by
  unfold table_Encode.f encB
  refine Ev.bind (f := fun k t => if t = true then (if 0 < (l.length : Int) then (if 0 < (m.length : Int) then ((some (([(l.length : Int), ((rd_L2 l 0).length : Int), ((rd_L3 m 0).length : Int)] : List Int) : List Int)).bind fun y234 => (table_Encode.l0 k (([84, 1] : List Int)) y234 (y234.length : Int) 0 l m)) else (none)) else (none)) else (some (⟨#[]⟩ : ByteArray))) (sh_ev l m hbl hbm) ?_
  cases hs : shB l m with
  | false => exact Ev.congr (f := fun _ => some (⟨#[]⟩ : ByteArray)) (fun k => by rw [if_neg (by decide)]) (Ev.now _)
  | true =>
    rw [if_pos rfl]
    have h := shp_of hs
    have hi := image_len h
    have h3 := cnt3 h.l2
    have h4 := cnt3 (n := (rd_L2 l 0).length) (by have := h.t2; omega)
    have h5 := cnt3 (n := (rd_L3 m 0).length) (by have := h.y2; omega)
    have hz := enc_l1 l m h.l2 (by rw [h.ml]; exact h.l2) hbl hbm h.fa h.fg _ 0 rfl (Nat.zero_le _) ([84, 1] ++ cnt l.length ++ cnt (rd_L2 l 0).length ++ cnt (rd_L3 m 0).length) (by rw [List.drop_zero]; exact Nat.lt_trans hi (by decide))
    rw [List.drop_zero] at hz
    have hk : Ev (fun k => table_Encode.l0 k [84, 1] [(l.length : Int), ((rd_L2 l 0).length : Int), ((rd_L3 m 0).length : Int)] 3 ((0 : Nat) : Int) l m) (strOfNums (image l m)) := by
      refine Ev.step (fun k => ?_) (Ev.bind (f := fun k t => table_Encode.l0 k t [(l.length : Int), ((rd_L2 l 0).length : Int), ((rd_L3 m 0).length : Int)] 3 1 l m) (count_f (acc := [84, 1]) (n := l.length) rfl (by simp; omega)) ?_)
      · simp only [table_Encode.l0]; rw [if_pos (by decide), if_pos (by decide), if_pos (by simp), show wrap64 (((0 : Nat) : Int) + 1) = 1 from by unfold wrap64; omega]; rfl
      refine Ev.step (fun k => ?_) (Ev.bind (f := fun k t => table_Encode.l0 k t [(l.length : Int), ((rd_L2 l 0).length : Int), ((rd_L3 m 0).length : Int)] 3 2 l m) (count_f (acc := [84, 1] ++ cnt l.length) (n := (rd_L2 l 0).length) rfl (by simp; omega)) ?_)
      · simp only [table_Encode.l0]; rw [if_pos (by decide), if_pos (by decide), if_pos (by simp), show wrap64 ((1 : Int) + 1) = 2 from by unfold wrap64; omega]; rfl
      refine Ev.step (fun k => ?_) (Ev.bind (f := fun k t => table_Encode.l0 k t [(l.length : Int), ((rd_L2 l 0).length : Int), ((rd_L3 m 0).length : Int)] 3 3 l m) (count_f (acc := [84, 1] ++ cnt l.length ++ cnt (rd_L2 l 0).length) (n := (rd_L3 m 0).length) rfl (by simp; omega)) ?_)
      · simp only [table_Encode.l0]; rw [if_pos (by decide), if_pos (by decide), if_pos (by simp), show wrap64 ((2 : Int) + 1) = 3 from by unfold wrap64; omega]; rfl
      refine Ev.step (fun k => ?_) hz
      simp only [table_Encode.l0]; rw [if_neg (by decide)]; rfl
    refine Ev.congr (fun k => ?_) hk
    rw [if_pos rfl, if_pos (by have := h.l1; omega), if_pos (by have := h.l1; have := h.ml; omega)]
    rfl
end Enc
end Go.Proofs.YtcijanmckhlpiaaDoor
namespace Go.Proofs.YtcijanmckhlpiaaDoor
open Go.RowKit Go.Proofs.YtcijanmckhlpiaaDoorW.PrintWords Go.Proofs.YtcijanmckhlpiaaDoorW.PrintLast Go.Proofs.YtcijanmckhlpiaaDoorW.PrintMore Go.Proofs.YtcijanmckhlpiaaDoor.PTableBack
set_option linter.unusedVariables false
set_option linter.unusedSimpArgs false
namespace Dec
def Seg (s : ByteArray) (p : Nat) (l : List Int) : Prop := ∀ (i : Nat) (b : Int), l[i]? = some b → p + i < s.size ∧ bt s ((p + i : Nat) : Int) = b
theorem Seg.nil (s : ByteArray) (p : Nat) : Seg s p [] := fun i b h => by simp at h
theorem Seg.cons {s : ByteArray} {p : Nat} {b : Int} {l : List Int} : Seg s p (b :: l) ↔ (p < s.size ∧ bt s (p : Int) = b) ∧ Seg s (p + 1) l := by
  constructor
  · intro h
    refine ⟨?_, fun i c hc => ?_⟩
    · have := h 0 b rfl
      simpa using this
    · have := h (i + 1) c (by simpa using hc)
      rw [show p + (i + 1) = p + 1 + i by omega] at this
      exact this
  · rintro ⟨⟨h1, h2⟩, h3⟩ i c hc
    cases i with
    | zero =>
      have e : b = c := by simpa using hc
      subst e
      exact ⟨by simpa using h1, by simpa using h2⟩
    | succ i =>
      have := h3 i c (by simpa using hc)
      rw [show p + 1 + i = p + (i + 1) by omega] at this
      exact this
theorem Seg.app {s : ByteArray} : ∀ {l1 l2 : List Int} {p : Nat}, Seg s p (l1 ++ l2) ↔ Seg s p l1 ∧ Seg s (p + l1.length) l2
  | [], l2, p => by
    rw [List.nil_append]
    exact ⟨fun h => ⟨Seg.nil _ _, by simpa using h⟩, fun h => by simpa using h.2⟩
  | b :: l1, l2, p => by
    rw [List.cons_append, Seg.cons, Seg.cons, Seg.app (l1 := l1) (l2 := l2) (p := p + 1), List.length_cons, show p + (l1.length + 1) = p + 1 + l1.length by omega]
    constructor
    · rintro ⟨a, b, c⟩; exact ⟨⟨a, b⟩, c⟩
    · rintro ⟨⟨a, b⟩, c⟩; exact ⟨a, b, c⟩
theorem Seg.le {s : ByteArray} {p : Nat} {b : Int} {l : List Int} (h : Seg s p (b :: l)) : p + (b :: l).length ≤ s.size := by
  have hl : (b :: l)[l.length]? = some ((b :: l)[l.length]'(by simp)) := List.getElem?_eq_getElem _
  have := (h l.length _ hl).1
  rw [List.length_cons]
  omega
theorem ipow7 (k : Nat) : (2 : Int) ^ (7 * (k + 1)) = 128 * 2 ^ (7 * k) := by rw [show 7 * (k + 1) = 7 * k + 7 by omega, Int.pow_add]; omega
theorem ecnt_small {n : Nat} (h : n < 128) : Enc.cnt n = [(n : Int)] := by
  unfold Enc.cnt
  rw [dif_neg (by omega)]
theorem ecnt_big {n : Nat} (h : 128 ≤ n) : Enc.cnt n = ((n % 128 + 128 : Nat) : Int) :: Enc.cnt (n / 128) := by
  rw [Enc.cnt]
  rw [dif_pos h]
theorem cnt_seg (s : ByteArray) : ∀ (f k : Nat) (acc : Int) (p n : Nat), n < 128 ^ (f + 1) → (0 < k → 0 < n) → Seg s p (Enc.cnt n) → cnt s (f + 1) k acc p = some (acc + (n : Int) * 2 ^ (7 * k), p + (Enc.cnt n).length) := by
  intro f
  induction f with
  | zero =>
    intro k acc p n hn hk h
    have hlt : n < 128 := by omega
    rw [ecnt_small hlt] at h ⊢
    obtain ⟨⟨h1, h2⟩, -⟩ := Seg.cons.1 h
    unfold cnt
    rw [if_pos h1, h2, if_pos (by omega), if_neg (by rintro ⟨a, b⟩; have := hk b; omega), Int.emod_eq_of_lt (by omega) (by omega)]
    rfl
  | succ f ih =>
    intro k acc p n hn hk h
    by_cases hlt : n < 128
    · rw [ecnt_small hlt] at h ⊢
      obtain ⟨⟨h1, h2⟩, -⟩ := Seg.cons.1 h
      unfold cnt
      rw [if_pos h1, h2, if_pos (by omega), if_neg (by rintro ⟨a, b⟩; have := hk b; omega), Int.emod_eq_of_lt (by omega) (by omega)]
      rfl
    · rw [ecnt_big (by omega)] at h ⊢
      obtain ⟨⟨h1, h2⟩, h3⟩ := Seg.cons.1 h
      have hd : n / 128 < 128 ^ (f + 1) := by rw [Nat.div_lt_iff_lt_mul (by decide)]; rw [Nat.pow_succ] at hn; exact hn
      have e := ih (k + 1) (acc + bt s (p : Int) % 128 * 2 ^ (7 * k)) (p + 1) (n / 128) hd (fun _ => by omega) h3
      rw [cnt, if_pos h1, if_neg (by rw [h2]; omega), e, h2, ipow7, List.length_cons]
      have a1 : ((n % 128 + 128 : Nat) : Int) % 128 = ((n % 128 : Nat) : Int) := by omega
      have a2 : (n : Int) = ((n % 128 : Nat) : Int) + ((n / 128 : Nat) : Int) * 128 := by omega
      rw [a1]
      have a3 : acc + ((n % 128 : Nat) : Int) * 2 ^ (7 * k) + ((n / 128 : Nat) : Int) * (128 * 2 ^ (7 * k)) = acc + (n : Int) * 2 ^ (7 * k) := by
        rw [a2, Int.add_mul, ← Int.mul_assoc, Int.add_assoc]
      rw [a3]
      congr 2
      try omega
theorem cnt_inv (s : ByteArray) : ∀ (f k : Nat) (acc : Int) (p : Nat) (v : Int) (q : Nat), cnt s f k acc p = some (v, q) → ∃ n : Nat, (0 < k → 0 < n) ∧ Seg s p (Enc.cnt n) ∧ q = p + (Enc.cnt n).length ∧ v = acc + (n : Int) * 2 ^ (7 * k) ∧ n < 128 ^ f := by
  intro f
  induction f with
  | zero => intro k acc p v q h; simp [cnt] at h
  | succ f ih =>
    intro k acc p v q h
    have hb := bt_range s p
    have hpow : 0 < 128 ^ f := Nat.pow_pos (by decide)
    unfold cnt at h
    split at h
    · rename_i hp
      split at h
      · rename_i hlt
        split at h
        · cases h
        · rename_i hz
          cases h
          obtain ⟨n, hn⟩ := Int.eq_ofNat_of_zero_le hb.1
          have hn' : bt s (p : Int) = (n : Int) := hn
          have hl : n < 128 := by omega
          refine ⟨n, fun hk => ?_, ?_, ?_, ?_, ?_⟩
          · rcases Nat.eq_zero_or_pos n with h0 | h0
            · exact absurd ⟨by rw [hn', h0]; rfl, hk⟩ hz
            · exact h0
          · rw [ecnt_small hl]
            exact Seg.cons.2 ⟨⟨hp, hn'⟩, Seg.nil _ _⟩
          · rw [ecnt_small hl]; rfl
          · rw [hn', Int.emod_eq_of_lt (by omega) (by omega)]
          · rw [Nat.pow_succ]
            have : 1 * 128 ≤ 128 ^ f * 128 := Nat.mul_le_mul_right _ hpow
            omega
      · rename_i hge
        obtain ⟨n, h1, h2, h3, h4, h5⟩ := ih _ _ _ _ _ h
        have hpos := h1 (Nat.succ_pos k)
        obtain ⟨b, hbn⟩ := Int.eq_ofNat_of_zero_le hb.1
        have hb' : bt s (p : Int) = (b : Int) := hbn
        have hb1 : 128 ≤ b := by omega
        have hb2 : b ≤ 255 := by omega
        have hbig : 128 ≤ 128 * n + (b - 128) := by omega
        have hdiv : (128 * n + (b - 128)) / 128 = n := by omega
        have hmod : (128 * n + (b - 128)) % 128 + 128 = b := by omega
        have he : Enc.cnt (128 * n + (b - 128)) = (b : Int) :: Enc.cnt n := by rw [ecnt_big hbig, hdiv, hmod]
        refine ⟨128 * n + (b - 128), fun _ => by omega, ?_, ?_, ?_, ?_⟩
        · rw [he]
          exact Seg.cons.2 ⟨⟨hp, hb'⟩, h2⟩
        · rw [he, List.length_cons, h3]; omega
        · rw [h4, hb', ipow7]
          have a1 : (b : Int) % 128 = ((b - 128 : Nat) : Int) := by omega
          rw [a1]
          have a2 : (((128 * n + (b - 128) : Nat)) : Int) = ((b - 128 : Nat) : Int) + (n : Int) * 128 := by omega
          rw [a2, Int.add_mul, ← Int.mul_assoc, Int.add_assoc]
        · rw [Nat.pow_succ]
          have : (n + 1) * 128 ≤ 128 ^ f * 128 := Nat.mul_le_mul_right _ h5
          omega
    · cases h
theorem num_seg {s : ByteArray} {p n : Nat} (hn : n < 128 ^ 9) (h : Seg s p (Enc.cnt n)) : num s p = some ((n : Int), p + (Enc.cnt n).length) := by
  unfold num
  rw [cnt_seg s 8 0 0 p n hn (fun h => absurd h (by decide)) h]
  simp
theorem num_inv {s : ByteArray} {p q : Nat} {v : Int} (h : num s p = some (v, q)) : ∃ n : Nat, v = (n : Int) ∧ Seg s p (Enc.cnt n) ∧ q = p + (Enc.cnt n).length := by
  obtain ⟨n, -, h2, h3, h4, -⟩ := cnt_inv s 9 0 0 p v q h
  exact ⟨n, by simpa using h4, h2, h3⟩
theorem within_seg {s : ByteArray} {lo hi : Int} {p n : Nat} (h : Seg s p (Enc.cnt n)) (h1 : lo ≤ n) (h2 : (n : Int) ≤ hi) (hh : hi ≤ 1000000) : within s lo hi p = some ((n : Int), p + (Enc.cnt n).length) := by
  unfold within
  rw [num_seg (Nat.lt_of_lt_of_le (show n < 1000001 by omega) (by decide)) h]
  simp only [Option.bind_some]
  rw [if_pos ⟨h1, h2⟩]
theorem within_inv {s : ByteArray} {lo hi : Int} {p q : Nat} {v : Int} (h : within s lo hi p = some (v, q)) : ∃ n : Nat, v = (n : Int) ∧ lo ≤ v ∧ v ≤ hi ∧ Seg s p (Enc.cnt n) ∧ q = p + (Enc.cnt n).length := by
  have hb := within_bound h
  unfold within at h
  rcases hn : num s p with _ | ⟨x, y⟩
  · rw [hn] at h; cases h
  · rw [hn] at h
    simp only [Option.bind_some] at h
    split at h
    · cases h
      obtain ⟨n, h1, h2, h3⟩ := num_inv hn
      exact ⟨n, h1, hb.1, hb.2.1, h2, h3⟩
    · cases h
theorem aNum_actOf (n : Nat) : Enc.aNum (actOf (n : Int)) = n := by
  by_cases h0 : n = 0
  · subst h0; rfl
  · by_cases h1 : n = 1
    · subst h1; rfl
    · by_cases h2 : (n : Int) % 2 = 0
      · have e : actOf (n : Int) = ⟨1, ((n : Int) - 2) / 2⟩ := by
          unfold actOf
          rw [if_neg (by omega), if_neg (by omega), if_pos h2]
        rw [e]
        show (2 * (((n : Int) - 2) / 2) + 2).toNat = n
        omega
      · have e : actOf (n : Int) = ⟨2, ((n : Int) - 3) / 2⟩ := by
          unfold actOf
          rw [if_neg (by omega), if_neg (by omega), if_neg h2]
        rw [e]
        show (2 * (((n : Int) - 3) / 2) + 3).toNat = n
        omega
theorem fit_eq (st : Int) (a : S93) : fitS a st = Enc.fitsB st a := by
  unfold fitS Enc.fitsB
  by_cases h0 : a.f0 = 0 ∨ a.f0 = 3
  · rw [if_pos h0, if_pos h0]
  · rw [if_neg h0, if_neg h0]
    by_cases h1 : a.f0 = 1
    · rw [if_pos h1, if_pos h1]
      by_cases h : a.f1 ≥ 0
      · rw [if_pos h]; simp [h]
      · rw [if_neg h]; simp; omega
    · rw [if_neg h1, if_neg h1]
      by_cases h2 : a.f0 = 2
      · rw [if_pos h2, if_pos h2]
        by_cases h : a.f1 ≥ 0
        · rw [if_pos h]; simp [h]
        · rw [if_neg h]; simp; omega
      · rw [if_neg h2, if_neg h2]
theorem actOf_aNum {st : Int} {a : S93} (h : Enc.fitsB st a = true) (hst : st ≤ 2048) : actOf ((Enc.aNum a : Nat) : Int) = a ∧ Enc.aNum a ≤ 4608 := by
  obtain ⟨x, y⟩ := a
  unfold Enc.fitsB at h
  simp only at h
  by_cases h0 : x = 0 ∨ x = 3
  · rw [if_pos h0] at h
    have hy : y = 0 := by simpa using h
    subst hy
    rcases h0 with rfl | rfl <;> exact ⟨rfl, by decide⟩
  · rw [if_neg h0] at h
    by_cases h1 : x = 1
    · subst h1
      rw [if_pos rfl] at h
      split at h
      · rename_i hy
        have hy2 : y < st := by simpa using h
        obtain ⟨n, rfl⟩ := Int.eq_ofNat_of_zero_le hy
        have e : Enc.aNum ⟨1, (n : Int)⟩ = 2 * n + 2 := by unfold Enc.aNum; simp; omega
        rw [e]
        refine ⟨?_, by omega⟩
        unfold actOf
        rw [if_neg (by omega), if_neg (by omega), if_pos (by omega)]
        congr 1
        omega
      · cases h
    · rw [if_neg h1] at h
      by_cases h2 : x = 2
      · subst h2
        rw [if_pos rfl] at h
        split at h
        · rename_i hy
          have hy2 : y < 256 := by simpa using h
          obtain ⟨n, rfl⟩ := Int.eq_ofNat_of_zero_le hy
          have e : Enc.aNum ⟨2, (n : Int)⟩ = 2 * n + 3 := by unfold Enc.aNum; simp; omega
          rw [e]
          refine ⟨?_, by omega⟩
          unfold actOf
          rw [if_neg (by omega), if_neg (by omega), if_neg (by omega), show (((2 * n + 3 : Nat) : Int) - 3) / 2 = (n : Int) by omega]
        · cases h
      · rw [if_neg h2] at h; cases h
theorem actR_seg {s : ByteArray} {st : Int} {p : Nat} {a : S93} (hst : st ≤ 2048) (hf : Enc.fitsB st a = true) (h : Seg s p (Enc.aE a)) : actR s st p = .ok (a, p + (Enc.aE a).length) := by
  obtain ⟨h1, h2⟩ := actOf_aNum hf hst
  unfold actR actS
  rw [within_seg h (Int.natCast_nonneg _) (by omega) (by omega)]
  simp only [Option.bind_some]
  rw [h1, fit_eq, if_pos hf]
  rfl
theorem actR_inv {s : ByteArray} {st : Int} {p q : Nat} {a : S93} (h : actR s st p = .ok (a, q)) : Seg s p (Enc.aE a) ∧ q = p + (Enc.aE a).length ∧ Enc.fitsB st a = true := by
  unfold actR actS at h
  rcases hw : within s 0 4608 p with _ | ⟨v, r⟩
  · rw [hw] at h; cases h
  · rw [hw] at h
    simp only [Option.bind_some] at h
    by_cases hf : fitS (actOf v) st = true
    · rw [if_pos hf] at h
      cases h
      obtain ⟨n, rfl, -, -, h1, h2⟩ := within_inv hw
      unfold Enc.aE
      rw [aNum_actOf]
      exact ⟨h1, h2, by rw [← fit_eq]; exact hf⟩
    · rw [if_neg hf] at h; cases h
theorem goR_seg {s : ByteArray} {st : Int} {p : Nat} {g : Int} (hst : st ≤ 2048) (hf : Enc.inrB st g = true) (h : Seg s p (Enc.gE g)) : goR s st p = .ok (g, p + (Enc.gE g).length) := by
  unfold Enc.inrB at hf
  simp at hf
  unfold goR
  rw [within_seg (n := (g + 1).toNat) h (Int.natCast_nonneg _) (by omega) (by omega)]
  simp only
  congr 2
  omega
theorem goR_inv {s : ByteArray} {st : Int} {p q : Nat} {g : Int} (h : goR s st p = .ok (g, q)) : Seg s p (Enc.gE g) ∧ q = p + (Enc.gE g).length ∧ Enc.inrB st g = true := by
  unfold goR at h
  rcases hw : within s 0 st p with _ | ⟨v, r⟩
  · rw [hw] at h; cases h
  · rw [hw] at h
    cases h
    obtain ⟨n, rfl, h0, h3, h1, h2⟩ := within_inv hw
    unfold Enc.gE
    rw [show (((n : Int) - 1) + 1).toNat = n by omega]
    refine ⟨h1, h2, ?_⟩
    unfold Enc.inrB
    simp
    omega
theorem many_seg {α : Type} {s : ByteArray} {rd : Nat → Except Nat (α × Nat)} {f : α → List Int} : ∀ {l : List α} {p : Nat}, (∀ x ∈ l, ∀ p, Seg s p (f x) → rd p = .ok (x, p + (f x).length)) → Seg s p (l.flatMap f) → many rd l.length p = .ok (l, p + (l.flatMap f).length)
  | [], p, _, _ => rfl
  | x :: l, p, hr, h => by
    rw [List.flatMap_cons] at h ⊢
    obtain ⟨h1, h2⟩ := Seg.app.1 h
    rw [List.length_cons]
    simp only [many]
    rw [hr x (by simp) p h1]
    simp only
    rw [many_seg (fun y hy => hr y (by simp [hy])) h2]
    simp only
    rw [List.length_append]
    congr 2
    omega
theorem many_inv {α : Type} {s : ByteArray} {rd : Nat → Except Nat (α × Nat)} {f : α → List Int} {P : α → Prop} (hr : ∀ p x q, rd p = .ok (x, q) → Seg s p (f x) ∧ q = p + (f x).length ∧ P x) : ∀ {m p q : Nat} {l : List α}, many rd m p = .ok (l, q) → Seg s p (l.flatMap f) ∧ q = p + (l.flatMap f).length ∧ l.length = m ∧ ∀ x ∈ l, P x
  | 0, p, q, l, h => by
    simp only [many] at h
    cases h
    exact ⟨Seg.nil _ _, rfl, rfl, fun x hx => by cases hx⟩
  | m + 1, p, q, l, h => by
    simp only [many] at h
    rcases h1 : rd p with _ | ⟨x, r⟩
    · rw [h1] at h; cases h
    · rw [h1] at h
      simp only at h
      rcases h2 : many rd m r with _ | ⟨l', r'⟩
      · rw [h2] at h; cases h
      · rw [h2] at h
        cases h
        obtain ⟨a1, a2, a3⟩ := hr p x r h1
        obtain ⟨b1, b2, b3, b4⟩ := many_inv hr h2
        rw [List.flatMap_cons, List.length_append, List.length_cons]
        refine ⟨Seg.app.2 ⟨a1, a2 ▸ b1⟩, by omega, by omega, fun y hy => ?_⟩
        rcases List.mem_cons.1 hy with rfl | hy
        · exact a3
        · exact b4 y hy
theorem many_seg' {α : Type} {s : ByteArray} {rd : Nat → Except Nat (α × Nat)} {f : α → List Int} {l : List α} {m p : Nat} (hm : l.length = m) (hr : ∀ x ∈ l, ∀ p, Seg s p (f x) → rd p = .ok (x, p + (f x).length)) (h : Seg s p (l.flatMap f)) : many rd m p = .ok (l, p + (l.flatMap f).length) := by
  subst hm
  exact many_seg hr h
theorem rdL2_zero {l : List (List S93)} (h : 1 ≤ l.length) : rd_L2 l 0 ∈ l := by
  unfold rd_L2
  rw [show (0 : Int).toNat = 0 from rfl, List.getD_eq_getElem?_getD, List.getElem?_eq_getElem (by omega)]
  exact List.getElem_mem _
theorem rdL3_zero {l : List (List Int)} (h : 1 ≤ l.length) : rd_L3 l 0 ∈ l := by
  unfold rd_L3
  rw [show (0 : Int).toNat = 0 from rfl, List.getD_eq_getElem?_getD, List.getElem?_eq_getElem (by omega)]
  exact List.getElem_mem _
theorem shRows_of (n t y : Int) : ∀ (l : List (List S93)) (m : List (List Int)), (∀ x ∈ l, (x.length : Int) = t ∧ x.all (Enc.fitsB n) = true) → (∀ x ∈ m, (x.length : Int) = y ∧ x.all (Enc.inrB n) = true) → Enc.shRows n t y l m = true
  | [], _, _, _ => by simp [Enc.shRows]
  | _ :: _, [], _, _ => by simp [Enc.shRows]
  | r :: rs, g :: gs, h1, h2 => by
    have a := h1 r (by simp)
    have b := h2 g (by simp)
    have c := shRows_of n t y rs gs (fun x hx => h1 x (by simp [hx])) (fun x hx => h2 x (by simp [hx]))
    simp only [Enc.shRows]
    rw [a.2, b.2, c, decide_eq_true a.1]
    simp [b.1]
theorem dec_image {l : List (List S93)} {m : List (List Int)} (h : Enc.shB l m = true) {s : ByteArray} (hs : Seg s 0 (Enc.image l m)) (hz : s.size = (Enc.image l m).length) : decS s = .ok (l, m) := by
  unfold Enc.shB at h
  simp only [Bool.and_eq_true, decide_eq_true_eq] at h
  obtain ⟨⟨h1, h2, h3, h4, h5, h6⟩, h7⟩ := h
  obtain ⟨h8, h9⟩ := Enc.shRows_ok _ _ _ l m h3.symm h7
  generalize hT : (rd_L2 l 0).length = T at *
  generalize hY : (rd_L3 m 0).length = Y at *
  unfold Enc.image at hs hz
  rw [hT, hY] at hs hz
  obtain ⟨hs, hr⟩ := Seg.app.1 hs
  obtain ⟨hs, hy⟩ := Seg.app.1 hs
  obtain ⟨hs, ht⟩ := Seg.app.1 hs
  obtain ⟨hs, hl⟩ := Seg.app.1 hs
  obtain ⟨hra, hrg⟩ := Seg.app.1 hr
  obtain ⟨⟨b0, b1⟩, hs1⟩ := Seg.cons.1 hs
  obtain ⟨⟨c0, c1⟩, -⟩ := Seg.cons.1 hs1
  have e2 : (0 + ([84, 1] : List Int).length) = 2 := rfl
  rw [e2] at hl
  unfold decS
  rw [if_neg (by intro hh; exact hh ⟨b0, by simpa using b1⟩), if_neg (by intro hh; exact hh ⟨c0, by simpa using c1⟩)]
  unfold tabS
  rw [within_seg hl (by omega) (by omega) (by omega)]
  simp only
  have ht' : Seg s (2 + (Enc.cnt l.length).length) (Enc.cnt T) := by
    have := ht
    rw [List.length_append] at this
    simpa [Nat.add_assoc] using this
  rw [within_seg ht' (by omega) (by omega) (by omega)]
  simp only
  have hy' : Seg s (2 + (Enc.cnt l.length).length + (Enc.cnt T).length) (Enc.cnt Y) := by
    have := hy
    rw [List.length_append, List.length_append] at this
    simpa [Nat.add_assoc] using this
  rw [within_seg hy' (by omega) (by omega) (by omega)]
  simp only
  unfold bodS
  rw [Int.toNat_natCast, Int.toNat_natCast, Int.toNat_natCast]
  have hra' : Seg s (2 + (Enc.cnt l.length).length + (Enc.cnt T).length + (Enc.cnt Y).length) (l.flatMap fun r => r.flatMap Enc.aE) := by
    have := hra
    rw [List.length_append, List.length_append, List.length_append] at this
    simpa [Nat.add_assoc, Enc.rowsA] using this
  have hrg' : Seg s (2 + (Enc.cnt l.length).length + (Enc.cnt T).length + (Enc.cnt Y).length + (l.flatMap fun r => r.flatMap Enc.aE).length) (m.flatMap fun r => r.flatMap Enc.gE) := by
    have := hrg
    rw [List.length_append, List.length_append, List.length_append] at this
    simpa [Nat.add_assoc, Enc.rowsA, Enc.rowsG] using this
  rw [many_seg' rfl (fun x hx p hp => many_seg' (by have := (h8 x hx).1; omega) (fun a ha p hp => actR_seg (by omega) (List.all_eq_true.1 (h8 x hx).2 a ha) hp) hp) hra']
  simp only
  rw [many_seg' h3 (fun x hx p hp => many_seg' (by have := (h9 x hx).1; omega) (fun a ha p hp => goR_seg (by omega) (List.all_eq_true.1 (h9 x hx).2 a ha) hp) hp) hrg']
  simp only
  rw [if_neg]
  rw [hz]
  simp only [List.length_append, Enc.rowsA, Enc.rowsG, List.length_cons, List.length_nil]
  omega
theorem dec_inv {l : List (List S93)} {m : List (List Int)} {s : ByteArray} (h : decS s = .ok (l, m)) : Enc.shB l m = true ∧ Seg s 0 (Enc.image l m) ∧ s.size = (Enc.image l m).length := by
  unfold decS at h
  split at h
  · cases h
  rename_i b0
  split at h
  · cases h
  rename_i b1
  have b0 := Classical.not_not.1 b0
  have b1 := Classical.not_not.1 b1
  unfold tabS at h
  rcases h1 : within s 1 2048 2 with _ | ⟨st, p1⟩
  · rw [h1] at h; cases h
  rw [h1] at h
  simp only at h
  rcases h2 : within s 1 64 p1 with _ | ⟨te, p2⟩
  · rw [h2] at h; cases h
  rw [h2] at h
  simp only at h
  rcases h3 : within s 0 128 p2 with _ | ⟨sy, p3⟩
  · rw [h3] at h; cases h
  rw [h3] at h
  simp only at h
  obtain ⟨n1, rfl, l1, u1, s1, rfl⟩ := within_inv h1
  obtain ⟨n2, rfl, l2, u2, s2, rfl⟩ := within_inv h2
  obtain ⟨n3, rfl, l3, u3, s3, rfl⟩ := within_inv h3
  unfold bodS at h
  rw [Int.toNat_natCast, Int.toNat_natCast, Int.toNat_natCast] at h
  generalize hp3 : 2 + (Enc.cnt n1).length + (Enc.cnt n2).length + (Enc.cnt n3).length = p3 at h
  rcases hA : many (many (actR s (n1 : Int)) n2) n1 p3 with _ | ⟨l', p4⟩
  · rw [hA] at h; cases h
  rw [hA] at h
  simp only at h
  rcases hG : many (many (goR s (n1 : Int)) n3) n1 p4 with _ | ⟨m', p5⟩
  · rw [hG] at h; cases h
  rw [hG] at h
  simp only at h
  split at h
  · cases h
  rename_i hp5
  cases h
  obtain ⟨a1, a2, a3, a4⟩ := many_inv (f := fun r => r.flatMap Enc.aE) (P := fun x => x.length = n2 ∧ ∀ a ∈ x, Enc.fitsB (n1 : Int) a = true) (fun p x q hx => by
    obtain ⟨c1, c2, c3, c4⟩ := many_inv (f := Enc.aE) (fun p x q hx => actR_inv hx) hx
    exact ⟨c1, c2, c3, c4⟩) hA
  obtain ⟨g1, g2, g3, g4⟩ := many_inv (f := fun r => r.flatMap Enc.gE) (P := fun x => x.length = n3 ∧ ∀ a ∈ x, Enc.inrB (n1 : Int) a = true) (fun p x q hx => by
    obtain ⟨c1, c2, c3, c4⟩ := many_inv (f := Enc.gE) (fun p x q hx => goR_inv hx) hx
    exact ⟨c1, c2, c3, c4⟩) hG
  have hT := (a4 _ (rdL2_zero (l := l) (by omega))).1
  have hY := (g4 _ (rdL3_zero (l := m) (by omega))).1
  have hseg : Seg s 0 (Enc.image l m) := by
    unfold Enc.image
    rw [hT, hY, a3]
    refine Seg.app.2 ⟨Seg.app.2 ⟨Seg.app.2 ⟨Seg.app.2 ⟨Seg.cons.2 ⟨⟨b0.1, b0.2⟩, Seg.cons.2 ⟨⟨b1.1, b1.2⟩, Seg.nil _ _⟩⟩, s1⟩, ?_⟩, ?_⟩, Seg.app.2 ⟨?_, ?_⟩⟩
    · rw [show 0 + (([84, 1] : List Int) ++ Enc.cnt n1).length = 2 + (Enc.cnt n1).length by simp only [List.length_append, List.length_cons, List.length_nil]; omega]
      exact s2
    · rw [show 0 + (([84, 1] : List Int) ++ Enc.cnt n1 ++ Enc.cnt n2).length = 2 + (Enc.cnt n1).length + (Enc.cnt n2).length by simp only [List.length_append, List.length_cons, List.length_nil]; omega]
      exact s3
    · rw [show 0 + (([84, 1] : List Int) ++ Enc.cnt n1 ++ Enc.cnt n2 ++ Enc.cnt n3).length = p3 by simp only [List.length_append, List.length_cons, List.length_nil]; omega]
      exact a1
    · rw [show 0 + (([84, 1] : List Int) ++ Enc.cnt n1 ++ Enc.cnt n2 ++ Enc.cnt n3).length + (Enc.rowsA l).length = p4 by simp only [List.length_append, List.length_cons, List.length_nil]; unfold Enc.rowsA; omega]
      exact g1
  have hlen : (Enc.image l m).length = p5 := by
    unfold Enc.image
    rw [hT, hY, a3]
    simp only [List.length_append, List.length_cons, List.length_nil]
    unfold Enc.rowsA Enc.rowsG
    omega
  have hle : p5 ≤ s.size := by
    have h0 : Enc.image l m = 84 :: ([1] ++ Enc.cnt l.length ++ Enc.cnt (rd_L2 l 0).length ++ Enc.cnt (rd_L3 m 0).length ++ (Enc.rowsA l ++ Enc.rowsG m)) := rfl
    have hq := hseg
    rw [h0] at hq
    have := hq.le
    rw [← h0, hlen] at this
    omega
  refine ⟨?_, hseg, by omega⟩
  unfold Enc.shB
  rw [hT, hY]
  simp only [Bool.and_eq_true, decide_eq_true_eq]
  refine ⟨by omega, shRows_of _ _ _ l m (fun x hx => ?_) (fun x hx => ?_)⟩
  · have := a4 x hx
    exact ⟨by omega, List.all_eq_true.2 (by rw [a3]; exact this.2)⟩
  · have := g4 x hx
    exact ⟨by omega, List.all_eq_true.2 (by rw [a3]; exact this.2)⟩
structure Pre (s t : ByteArray) : Prop where
  le : s.size ≤ t.size
  eq : ∀ p : Nat, p < s.size → bt s (p : Int) = bt t (p : Int)
theorem Pre.cnt {s t : ByteArray} (h : Pre s t) : ∀ (f k : Nat) (acc : Int) (p : Nat) (r : Int × Nat), cnt s f k acc p = some r → Dec.cnt t f k acc p = some r := by
  intro f
  induction f with
  | zero => intro k acc p r e; simp [Dec.cnt] at e
  | succ f ih =>
    intro k acc p r e
    unfold Dec.cnt at e ⊢
    by_cases hp : p < s.size
    · rw [if_pos hp] at e
      rw [if_pos (Nat.lt_of_lt_of_le hp h.le), ← h.eq p hp]
      split at e
      · rename_i hb
        rw [if_pos hb]
        split at e
        · cases e
        · rename_i hz
          rw [if_neg hz]
          exact e
      · rename_i hb
        rw [if_neg hb]
        exact ih _ _ _ _ e
    · rw [if_neg hp] at e; cases e
theorem Pre.within {s t : ByteArray} (h : Pre s t) {lo hi : Int} {p : Nat} {r : Int × Nat} (e : within s lo hi p = some r) : Dec.within t lo hi p = some r := by
  unfold Dec.within at e ⊢
  rcases hn : num s p with _ | x
  · rw [hn] at e; cases e
  · have := h.cnt 9 0 0 p x hn
    rw [hn] at e
    unfold num
    rw [this]
    exact e
theorem Pre.actR {s t : ByteArray} (h : Pre s t) {st : Int} {p : Nat} {r : S93 × Nat} (e : actR s st p = .ok r) : Dec.actR t st p = .ok r := by
  unfold Dec.actR actS at e ⊢
  rcases hw : Dec.within s 0 4608 p with _ | x
  · rw [hw] at e; cases e
  · rw [h.within hw]
    rw [hw] at e
    exact e
theorem Pre.goR {s t : ByteArray} (h : Pre s t) {st : Int} {p : Nat} {r : Int × Nat} (e : goR s st p = .ok r) : Dec.goR t st p = .ok r := by
  unfold Dec.goR at e ⊢
  rcases hw : Dec.within s 0 st p with _ | x
  · rw [hw] at e; cases e
  · rw [h.within hw]
    rw [hw] at e
    exact e
theorem many_place {α : Type} {rd : Nat → Except Nat (α × Nat)} {N : Nat} (h : ∀ p, p ≤ N → (∀ e, rd p = .error e → e ≤ N) ∧ (∀ x q, rd p = .ok (x, q) → q ≤ N)) : ∀ (m p : Nat), p ≤ N → (∀ e, many rd m p = .error e → e ≤ N) ∧ (∀ x q, many rd m p = .ok (x, q) → q ≤ N)
  | 0, p, hp => ⟨fun e he => by simp [many] at he, fun x q hq => by simp only [many] at hq; cases hq; exact hp⟩
  | m + 1, p, hp => by
    obtain ⟨h1, h2⟩ := h p hp
    simp only [many]
    rcases hr : rd p with e | ⟨x, q⟩
    · exact ⟨fun e' he => by cases he; exact h1 e hr, fun _ _ hq => by cases hq⟩
    · have h3 := many_place h m q (h2 x q hr)
      simp only
      rcases hm : many rd m q with e | ⟨l, r⟩
      · exact ⟨fun e' he => by cases he; exact h3.1 e hm, fun _ _ hq => by cases hq⟩
      · exact ⟨fun e' he => (by cases he), fun x q hq => by cases hq; exact h3.2 l r hm⟩
theorem within_le {s : ByteArray} {lo hi : Int} {p : Nat} {r : Int × Nat} (h : within s lo hi p = some r) : r.2 ≤ s.size := (within_bound h).2.2.2
theorem dec_place {s : ByteArray} {p : Nat} (h : decS s = .error p) : p ≤ s.size := by
  unfold decS at h
  split at h
  · cases h; omega
  rename_i b0
  split at h
  · cases h
    have := (Classical.not_not.1 b0).1
    omega
  rename_i b1
  have b1 := (Classical.not_not.1 b1).1
  unfold tabS at h
  rcases h1 : within s 1 2048 2 with _ | ⟨st, p1⟩
  · rw [h1] at h; cases h; omega
  have q1 := within_le h1
  rw [h1] at h
  simp only at h
  rcases h2 : within s 1 64 p1 with _ | ⟨te, p2⟩
  · rw [h2] at h; cases h; exact q1
  have q2 := within_le h2
  rw [h2] at h
  simp only at h
  rcases h3 : within s 0 128 p2 with _ | ⟨sy, p3⟩
  · rw [h3] at h; cases h; exact q2
  have q3 := within_le h3
  rw [h3] at h
  simp only at h q1 q2 q3
  have hA := many_place (fun p hp => many_place (rd := actR s st) (N := s.size) (fun p hp => by
    unfold actR actS
    rcases hw : within s 0 4608 p with _ | ⟨v, r⟩
    · exact ⟨(fun e he => by cases he; exact hp), (fun x q hq => by cases hq)⟩
    · simp only [Option.bind_some]
      by_cases hf : fitS (actOf v) st = true
      · rw [if_pos hf]
        exact ⟨(fun e he => by cases he), (fun x q hq => by cases hq; exact within_le hw)⟩
      · rw [if_neg hf]
        exact ⟨(fun e he => by cases he; exact hp), (fun x q hq => by cases hq)⟩) te.toNat p hp) st.toNat p3 q3
  unfold bodS at h
  rcases h4 : many (many (actR s st) te.toNat) st.toNat p3 with e | ⟨l', p4⟩
  · rw [h4] at h; cases h; exact hA.1 _ h4
  have q4 := hA.2 _ _ h4
  rw [h4] at h
  simp only at h
  have hG := many_place (fun p hp => many_place (rd := goR s st) (N := s.size) (fun p hp => by
    unfold goR
    rcases hw : within s 0 st p with _ | ⟨v, r⟩
    · exact ⟨(fun e he => by cases he; exact hp), (fun x q hq => by cases hq)⟩
    · exact ⟨(fun e he => by cases he), (fun x q hq => by cases hq; exact within_le hw)⟩) sy.toNat p hp) st.toNat p4 q4
  rcases h5 : many (many (goR s st) sy.toNat) st.toNat p4 with e | ⟨m', p5⟩
  · rw [h5] at h; cases h; exact hG.1 _ h5
  rw [h5] at h
  simp only at h
  split at h
  · cases h
    rename_i hh
    omega
  · cases h
theorem nums_seg {l : List Int} (h : ∀ b ∈ l, 0 ≤ b ∧ b < 256) : Seg (strOfNums l) 0 l ∧ (strOfNums l).size = l.length := by
  have hsz : (strOfNums l).size = l.length := by simp [strOfNums, ByteArray.size]
  refine ⟨fun i b hb => ?_, hsz⟩
  obtain ⟨hi, he⟩ := List.getElem?_eq_some_iff.1 hb
  have hr := h b (List.mem_of_getElem? hb)
  refine ⟨by omega, ?_⟩
  rw [Nat.zero_add]
  unfold bt
  rw [Int.toNat_natCast, dif_pos (by omega)]
  have e : (strOfNums l)[i]'(by omega) = UInt8.ofNat b.toNat := by
    show (l.map fun n => UInt8.ofNat n.toNat).toArray[i]'(by simpa using hi) = _
    simp [he]
  rw [e]
  simp
  omega
theorem seg_eq {s : ByteArray} {l : List Int} (h : Seg s 0 l) (hz : s.size = l.length) (hb : ∀ b ∈ l, 0 ≤ b ∧ b < 256) : s = strOfNums l := by
  obtain ⟨h1, h2⟩ := nums_seg hb
  apply ByteArray.ext
  apply Array.ext
  · show s.size = (strOfNums l).size
    omega
  · intro i hi1 hi2
    have hil : i < l.length := by rw [← hz]; exact hi1
    have a := (h i _ (List.getElem?_eq_getElem hil)).2
    have b := (h1 i _ (List.getElem?_eq_getElem hil)).2
    rw [← b, Nat.zero_add] at a
    unfold bt at a
    rw [Int.toNat_natCast, dif_pos (by show i < s.size; omega), dif_pos (by show i < (strOfNums l).size; omega)] at a
    apply UInt8.toNat_inj.1
    exact Int.ofNat_inj.1 a
theorem ecnt_bytes : ∀ (N n : Nat), n ≤ N → ∀ b ∈ Enc.cnt n, 0 ≤ b ∧ b < 256 := by
  intro N
  induction N with
  | zero =>
    intro n hn b hb
    rw [ecnt_small (by omega)] at hb
    rw [List.mem_singleton.1 hb]
    omega
  | succ N ih =>
    intro n hn b hb
    by_cases h : n < 128
    · rw [ecnt_small h] at hb
      rw [List.mem_singleton.1 hb]
      omega
    · rw [ecnt_big (by omega)] at hb
      rcases List.mem_cons.1 hb with rfl | hb
      · omega
      · exact ih (n / 128) (by omega) b hb
theorem image_bytes (l : List (List S93)) (m : List (List Int)) : ∀ b ∈ Enc.image l m, 0 ≤ b ∧ b < 256 := by
  intro b hb
  have key : ∀ n, b ∈ Enc.cnt n → 0 ≤ b ∧ b < 256 := fun n h => ecnt_bytes n n (Nat.le_refl _) b h
  unfold Enc.image Enc.rowsA Enc.rowsG at hb
  simp only [List.mem_append, List.mem_cons, List.not_mem_nil, or_false, List.mem_flatMap] at hb
  rcases hb with ((((rfl | rfl) | h) | h) | h) | (⟨x, _, y, _, h⟩ | ⟨x, _, y, _, h⟩)
  · omega
  · omega
  · exact key _ h
  · exact key _ h
  · exact key _ h
  · exact key _ h
  · exact key _ h
theorem dec_enc {l : List (List S93)} {m : List (List Int)} (h : Enc.shB l m = true) : decS (Enc.encB l m) = .ok (l, m) := by
  unfold Enc.encB
  rw [if_pos h]
  obtain ⟨h1, h2⟩ := nums_seg (image_bytes l m)
  exact dec_image h h1 h2
theorem enc_dec {l : List (List S93)} {m : List (List Int)} {s : ByteArray} (h : decS s = .ok (l, m)) : Enc.encB l m = s := by
  obtain ⟨h1, h2, h3⟩ := dec_inv h
  unfold Enc.encB
  rw [if_pos h1]
  exact (seg_eq h2 h3 (image_bytes l m)).symm
abbrev kI : Kd Int := Kd.int .i64
abbrev kA : Kd (List S93) := Kd.slice 93 k93
abbrev kG : Kd (List Int) := Kd.slice 3 kI
def tru (_ : Nat) : Prop := True
def plainT (t : Nat) : Prop := t ≠ 93 ∧ t ≠ 90 ∧ t ≠ 3 ∧ t ≠ 95
theorem kA_E {t : Nat} (h : plainT t) : ∀ q, q ∈ 90 :: kA.E → q ≠ t := by
  intro q hq
  have : q = 90 ∨ q = 93 := by simpa [kA, Kd.slice, k93, Kd.iso, Kd.pair, Kd.int, Kd.scalar] using hq
  rcases this with rfl | rfl
  · exact fun e => h.2.1 e.symm
  · exact fun e => h.1 e.symm
theorem kG_E {t : Nat} (h : plainT t) : ∀ q, q ∈ 95 :: kG.E → q ≠ t := by
  intro q hq
  have : q = 95 ∨ q = 3 := by simpa [kG, Kd.slice, kI, Kd.int, Kd.scalar] using hq
  rcases this with rfl | rfl
  · exact fun e => h.2.2.2 e.symm
  · exact fun e => h.2.2.1 e.symm
structure St (w0 W : World) (g : Nat) (rc : Array Value) (rt : Nat) (bT : Nat) (tc : Array Value) (fix : List (Nat × Array Value × Nat)) (vl vA vG : Value) (rows : List (List S93)) (gos : List (List Int)) : Prop where
  below : Below w0.heap.size w0 W
  rd : W.heap[g]? = some (.cells rc rt (0, 0))
  rtp : plainT rt
  tb : W.heap[bT]? = some (.cells tc 25 (0, 0))
  ge : w0.heap.size ≤ g ∧ w0.heap.size ≤ bT ∧ bT ≠ g
  fixed : ∀ f ∈ fix, W.heap[f.1]? = some (.cells f.2.1 f.2.2 (0, 0)) ∧ plainT f.2.2 ∧ f.1 ≠ g ∧ f.1 ≠ bT
  rA : kA.R 90 W w0.heap.size (fun k => tru k ∧ some k ≠ vl.ownBlock) vA rows
  rG : kG.R 95 W w0.heap.size (fun k => tru k ∧ some k ≠ vl.ownBlock) vG gos
variable {w0 W W1 : World} {g rt bT : Nat} {rc tc : Array Value} {fix : List (Nat × Array Value × Nat)} {vl vA vG : Value} {rows : List (List S93)} {gos : List (List Int)}
theorem plain25 : plainT 25 := by unfold plainT; decide
theorem St.drop (h : St w0 W g rc rt bT tc fix vl vA vG rows gos) : St w0 W g rc rt bT tc fix (.slice none 0 0) vA vG rows gos :=
  ⟨h.below, h.rd, h.rtp, h.tb, h.ge, h.fixed, Kd.R_apart_nil (Kd.R_drop h.rA), Kd.R_apart_nil (Kd.R_drop h.rG)⟩
theorem St.call (h : St w0 W g rc rt bT tc fix vl vA vG rows gos) {rc' : Array Value} (hk : KeepBut W W1 g none) (hr : W1.heap[g]? = some (.cells rc' rt (0, 0))) (hb : Below w0.heap.size w0 W1) : St w0 W1 g rc' rt bT tc fix vl vA vG rows gos where
  below := hb
  rd := hr
  rtp := h.rtp
  tb := hk.blk h.tb h.ge.2.2 (by simp)
  ge := h.ge
  fixed := fun f hf => ⟨hk.blk (h.fixed f hf).1 (h.fixed f hf).2.2.1 (by simp), (h.fixed f hf).2⟩
  rA := Kd.R_mono (Kd.R_keep (Kd.R_types h.rA h.rd (kA_E h.rtp)) hk (fun _ hk => hk.2)) (fun _ hk => hk.1)
  rG := Kd.R_mono (Kd.R_keep (Kd.R_types h.rG h.rd (kG_E h.rtp)) hk (fun _ hk => hk.2)) (fun _ hk => hk.1)
theorem St.bel (h : St w0 W g rc rt bT tc fix vl vA vG rows gos) (hb : Below W.heap.size W W1) : St w0 W1 g rc rt bT tc fix vl vA vG rows gos :=
  h.call (KeepBut.of_below hb g none) (blk_below h.rd hb) (below_step h.below hb)
theorem St.alloc (h : St w0 W g rc rt bT tc fix vl vA vG rows gos) (o : Obj) : St w0 (W.alloc o) g rc rt bT tc fix vl vA vG rows gos := h.bel (below_alloc (Below.refl _ _) o)
theorem St.drewN (h : St w0 W g rc rt bT tc fix vl vA vG rows gos) (m : Nat) : St w0 (W.drewN m) g rc rt bT tc fix vl vA vG rows gos := h.bel (pw_below_drewN (Below.refl _ _) m)
theorem St.app (h : St w0 W g rc rt bT tc fix vl vA vG rows gos) {e : Nat} {v1 : Value} (he : e = 93 ∨ e = 3) (ht : ∀ k, vl.ownBlock = some k → ∃ cells, W.heap[k]? = some (.cells cells e (0, 0)))
    (hg : W.grownBy W1 vl.ownBlock) (hat : v1.ownBlock = vl.ownBlock ∨ ∃ b, v1.ownBlock = some b ∧ W.heap.size ≤ b) (hb : Below w0.heap.size w0 W1) : St w0 W1 g rc rt bT tc fix v1 vA vG rows gos := by
  have ne : ∀ {k t : Nat} {cs : Array Value}, W.heap[k]? = some (.cells cs t (0, 0)) → plainT t → some k ≠ vl.ownBlock := by
    intro k t cs hk hp e2
    obtain ⟨cells, hc⟩ := ht k e2.symm
    rw [hc] at hk
    injection hk with hk
    injection hk with _ hk
    subst hk
    rcases he with rfl | rfl
    · exact hp.1 rfl
    · exact hp.2.2.1 rfl
  exact ⟨hb, blk_grown h.rd hg (ne h.rd h.rtp), h.rtp, blk_grown h.tb hg (ne h.tb plain25), h.ge, fun f hf => ⟨blk_grown (h.fixed f hf).1 hg (ne (h.fixed f hf).1 (h.fixed f hf).2.1), (h.fixed f hf).2⟩, Kd.R_after h.rA hg hat, Kd.R_after h.rG hg hat⟩
theorem St.appA (h : St w0 W g rc rt bT tc fix vl vA vG rows gos) {v1 : Value} {rows' : List (List S93)} (ho : kA.R 90 W1 w0.heap.size tru v1 rows') (hg : W.grownBy W1 vA.ownBlock) (hb : Below w0.heap.size w0 W1) : St w0 W1 g rc rt bT tc fix (.slice none 0 0) v1 vG rows' gos where
  below := hb
  rd := blk_grown h.rd hg (Kd.R_ne h.rA h.rd (fun e => h.rtp.2.1 e.symm))
  rtp := h.rtp
  tb := blk_grown h.tb hg (Kd.R_ne h.rA h.tb (by decide))
  ge := h.ge
  fixed := fun f hf => ⟨blk_grown (h.fixed f hf).1 hg (Kd.R_ne h.rA (h.fixed f hf).1 (fun e => (h.fixed f hf).2.1.2.1 e.symm)), (h.fixed f hf).2⟩
  rA := Kd.R_apart_nil ho
  rG := Kd.R_apart_nil (Kd.R_drop (Kd.R_over h.rG h.rA (by decide) hg))
theorem St.appG (h : St w0 W g rc rt bT tc fix vl vA vG rows gos) {v1 : Value} {gos' : List (List Int)} (ho : kG.R 95 W1 w0.heap.size tru v1 gos') (hg : W.grownBy W1 vG.ownBlock) (hb : Below w0.heap.size w0 W1) : St w0 W1 g rc rt bT tc fix (.slice none 0 0) vA v1 rows gos' where
  below := hb
  rd := blk_grown h.rd hg (Kd.R_ne h.rG h.rd (fun e => h.rtp.2.2.2 e.symm))
  rtp := h.rtp
  tb := blk_grown h.tb hg (Kd.R_ne h.rG h.tb (by decide))
  ge := h.ge
  fixed := fun f hf => ⟨blk_grown (h.fixed f hf).1 hg (Kd.R_ne h.rG (h.fixed f hf).1 (fun e => (h.fixed f hf).2.1.2.2.2 e.symm)), (h.fixed f hf).2⟩
  rA := Kd.R_apart_nil (Kd.R_drop (Kd.R_over h.rA h.rG (by decide) hg))
  rG := Kd.R_apart_nil ho
theorem St.setT (h : St w0 W g rc rt bT tc fix vl vA vG rows gos) (j : Nat) (u : Value) {tc' : Array Value} (e : tc.setIfInBounds j u = tc') : St w0 (W.setCell ⟨bT, j, none⟩ u) g rc rt bT tc' fix vl vA vG rows gos where
  below := below_set h.below h.ge.2.1
  rd := blk_far h.rd (fun e => h.ge.2.2 e.symm) u
  rtp := h.rtp
  tb := blk_put h.tb j u e
  ge := h.ge
  fixed := fun f hf => ⟨blk_far (h.fixed f hf).1 (h.fixed f hf).2.2.2 u, (h.fixed f hf).2⟩
  rA := Kd.R_set h.rA h.tb (kA_E plain25) j u
  rG := Kd.R_set h.rG h.tb (kG_E plain25) j u
theorem R_ne_types {α β : Type} {d : Kd α} {d' : Kd β} {e e' b b' : Nat} {ok ok' : Nat → Prop} {v u : Value} {xs : List α} {ys : List β} (h : d.R e W b ok v xs) (hu : d'.R e' W b' ok' u ys) (ht : ∀ q, q ∈ e :: d.E → q ≠ e') : d.R e W b (fun k => some k ≠ u.ownBlock) v xs :=
  Kd.R_mono (Kd.R_bound h) (fun k hk he => by
    obtain ⟨_, _, _, q, hq, cells, hc⟩ := hk
    obtain ⟨inner, ho⟩ := Kd.R_own hu
    obtain ⟨cells', hc'⟩ := own_typed ho k he.symm
    rw [hc] at hc'
    injection hc' with hc'
    injection hc' with _ hc'
    exact ht q hq hc')
theorem info93 : (Tryd.prog.info? 93).map (fun i => (i.zero, i.size, i.bytes)) = some (some (.agg #[.int .i64 0, .int .i64 0]), 2, 16) := by kernel_rfl
theorem info90 : (Tryd.prog.info? 90).map (fun i => (i.zero, i.size, i.bytes)) = some (some (.slice none 0 0), 1, 24) := by kernel_rfl
theorem info95 : (Tryd.prog.info? 95).map (fun i => (i.zero, i.size, i.bytes)) = some (some (.slice none 0 0), 1, 24) := by kernel_rfl
theorem info3 : (Tryd.prog.info? 3).map (fun i => (i.zero, i.size, i.bytes)) = some (some (.int .i64 0), 1, 8) := by kernel_rfl
theorem C_one93 {W : World} {b : Nat} {p q : Int} (h : W.heap[b]? = some (Obj.cells #[.int .i64 p, .int .i64 q] 93 (0, 0))) : k93.C W (some ⟨b, 0, none⟩) 1 [⟨p, q⟩] := by
  refine ⟨rfl, by decide, fun _ => ⟨⟨b, 0, none⟩, rfl, fun j x hj => ?_⟩⟩
  match j with
  | 0 =>
    simp at hj
    subst hj
    refine ⟨[.int .i64 p, .int .i64 q], rfl, k93_mk _ _, fun k u hu => ?_⟩
    rw [add_plain]
    refine (blk_cell h _).trans ?_
    match k with
    | 0 => exact hu
    | 1 => exact hu
    | k + 2 => simp at hu
  | j + 1 => simp at hj
theorem C_one3 {W : World} {b : Nat} {p : Int} (h : W.heap[b]? = some (Obj.cells #[.int .i64 p] 3 (0, 0))) : kI.C W (some ⟨b, 0, none⟩) 1 [p] := by
  refine ⟨rfl, by decide, fun _ => ⟨⟨b, 0, none⟩, rfl, fun j x hj => ?_⟩⟩
  match j with
  | 0 =>
    simp at hj
    subst hj
    refine ⟨[.int .i64 p], rfl, rfl, fun k u hu => ?_⟩
    rw [add_plain]
    refine (blk_cell h _).trans ?_
    match k with
    | 0 => exact hu
    | k + 1 => simp at hu
  | j + 1 => simp at hj
theorem typed_of {α : Type} {d : Kd α} {e b : Nat} {ok : Nat → Prop} {W : World} {v : Value} {xs : List α} (h : d.R e W b ok v xs) : ∀ k, v.ownBlock = some k → ∃ cells, W.heap[k]? = some (.cells cells e (0, 0)) := by
  obtain ⟨inner, ho⟩ := Kd.R_own h
  exact fun k hk => own_typed ho k hk
theorem k93_E : ∀ t : Nat, t ≠ 93 → ∀ q, q ∈ 93 :: k93.E → q ≠ t := by
  intro t ht q hq
  have : q = 93 := by simpa [k93, Kd.iso, Kd.pair, Kd.int, Kd.scalar] using hq
  subst this; exact fun e => ht e.symm
theorem kI_E : ∀ t : Nat, t ≠ 3 → ∀ q, q ∈ 3 :: kI.E → q ≠ t := by
  intro t ht q hq
  have : q = 3 := by simpa [kI, Kd.int, Kd.scalar] using hq
  subst this; exact fun e => ht e.symm
abbrev fixT (N : Nat) (n0 n1 n2 : Nat) : List (Nat × Array Value × Nat) := [(N, #[.slice none 0 0, .slice none 0 0], 25), (N + 1, #[.int .i64 (n0 : Int), .int .i64 (n1 : Int), .int .i64 (n2 : Int)], 131)]
abbrev rdC (s : ByteArray) (q : Nat) : Array Value := #[.string s, .int .i64 (q : Int)]
abbrev sizes6 : Value := .agg #[.int .i64 1, .int .i64 2048, .int .i64 1, .int .i64 64, .int .i64 0, .int .i64 128]
theorem ixs0 (W : World) : (Instr.index 132 sizes6 (.int .i64 0)).run Tryd.prog W = .ok (.agg #[.int .i64 1, .int .i64 2048]) W := by kernel_rfl
theorem ixs1 (W : World) : (Instr.index 132 sizes6 (.int .i64 1)).run Tryd.prog W = .ok (.agg #[.int .i64 1, .int .i64 64]) W := by kernel_rfl
theorem ixs2 (W : World) : (Instr.index 132 sizes6 (.int .i64 2)).run Tryd.prog W = .ok (.agg #[.int .i64 0, .int .i64 128]) W := by kernel_rfl
theorem plain131 : plainT 131 := by unfold plainT; decide
theorem IsBad.alloc {w W : World} {p : Nat} {ev : Value} (h : IsBad w W p ev) (o : Obj) : IsBad w (W.alloc o) p ev := by
  obtain ⟨b, h1, h2, h3⟩ := h
  exact ⟨b, h1, h2, blk_alloc h3 o⟩
abbrev nilS : Value := .slice none 0 0
def TabE (o : Except Nat (List (List S93) × List (List Int))) (w0 w w' : World) (e : Ending) : Prop := match o with
  | .error p => ∃ ev, e = .returned (.tuple #[.agg #[nilS, nilS], ev]) ∧ IsBad w w' p ev
  | .ok r => ∃ vA vG, e = .returned (.tuple #[.agg #[vA, vG], .nilIface]) ∧ kA.R 90 w' w0.heap.size tru vA r.1 ∧ kG.R 95 w' w0.heap.size tru vG r.2
set_option maxRecDepth 100000 in
set_option maxHeartbeats 4000000 in
theorem table_any (s : ByteArray) (g p : Nat) (w0 w : World) (hI : IsR w0 w g s p) (hB : Below w0.heap.size w0 w) (hs : s.size ≤ 140737488351232) (hp : p ≤ s.size) :
    Calls Tryd.prog 29 #[.pointer (some ⟨g, 0, none⟩)] w fun e w' => Below w0.heap.size w0 w' ∧ TabE (tabS s p) w0 w w' e := by
  have HR : Hid (Rel w0 w w g s p) := ⟨hI, hB, KeepBut.refl _ _ _⟩
  have hgl : g < w.heap.size := blk_lt hI.1
  have hwl : w0.heap.size ≤ w.heap.size := hB.size
  have hgw : w0.heap.size ≤ g := hI.2
  clear hI hB
  go_enter Tryd.func29, Tryd.ntmps29
  go_wp2_with fail
  have HR1 := Lib.hid ((HR.out.alloc (.cells #[nilS, nilS] 25)).alloc (.cells #[.int .i64 0, .int .i64 0, .int .i64 0] 131))
  have HX := Lib.hid (blk_alloc (blk_new w (.cells #[nilS, nilS] 25)) (.cells #[.int .i64 0, .int .i64 0, .int .i64 0] 131))
  have hY := blk_new (w.alloc (.cells #[nilS, nilS] 25)) (.cells #[.int .i64 0, .int .i64 0, .int .i64 0] 131)
  rw [World.size_alloc] at hY
  have HY := Lib.hid hY
  have HD0 : Hid (HD s p 0 0 0 0 p) := Lib.hid ⟨rfl, rfl, rfl, rfl⟩
  clear HR hY
  go_loopw [20] (fun v w' => ∃ (i q : Nat) (x0 x1 x2 : Int), v = .int .i64 (i : Int) ∧ i ≤ 3 ∧ q ≤ s.size ∧ Hid (Rel w0 w w' g s q) ∧ Hid (w'.heap[w.heap.size]? = some (.cells #[nilS, nilS] 25 (0, 0))) ∧ Hid (w'.heap[w.heap.size + 1]? = some (.cells #[.int .i64 x0, .int .i64 x1, .int .i64 x2] 131 (0, 0))) ∧ Hid (HD s p i x0 x1 x2 q)) (fun v _ => 3 - (intOf v).toNat)
  case atStart => exact ⟨0, p, 0, 0, 0, rfl, by omega, hp, HR1, HX, HY, HD0⟩
  case round =>
    clear HR1 HX HY HD0
    obtain ⟨i, q, x0, x1, x2, rfl, hi, hq, HR, HX, HY, HH⟩ := hrel
    have hsz : w.heap.size + 1 < wr.heap.size := blk_lt HY.out
    match i, hi with
    | 0, _ =>
      have hix := ixs0 wr
      have HRa := Lib.hid (HR.out.alloc (.cells #[.int .i64 1, .int .i64 2048] 106))
      have HXa := Lib.hid (blk_alloc HX.out (.cells #[.int .i64 1, .int .i64 2048] 106))
      have HYa := Lib.hid (blk_alloc HY.out (.cells #[.int .i64 1, .int .i64 2048] 106))
      go_wp2_with fail
      refine (within_any s g q 1 2048 w0 _ HRa.out.is HRa.out.below hs hq).mono ?_
      rintro e w1 ⟨q1, hq1, hR, hW⟩
      have HR1 := Lib.hid (HRa.out.trans hR)
      have HX1 := Lib.hid (hR.keep.blk HXa.out (by omega) (by simp))
      have HY1 := Lib.hid (hR.keep.blk HYa.out (by omega) (by simp))
      have hsz1 := hR.size
      rw [World.size_alloc] at hsz1
      clear hR HR HX HY HRa HXa HYa hix
      have hx0 := blk_cell HX1.out 0
      have hx1 := blk_cell HX1.out 1
      have hx2 := blk_frozen HX1.out 0
      have hx3 := blk_frozen HX1.out 1
      have hy0 := blk_cell HY1.out 0
      have hy1 := blk_cell HY1.out 1
      have hy2 := blk_cell HY1.out 2
      have hf0 := blk_frozen HY1.out 0
      have hf1 := blk_frozen HY1.out 1
      have hf2 := blk_frozen HY1.out 2
      simp at hx0 hx1 hy0 hy1 hy2
      rcases hw : within s 1 2048 q with _ | ⟨n, qn⟩
      · rw [hw] at hW
        obtain ⟨ev, rfl, hbad⟩ := hW
        have HT := Lib.hid (HD.bad0 HH.out hw)
        have HBad := Lib.hid ((hbad.far (k := w.heap.size) (j := 0) (by rw [World.size_alloc]; omega) nilS).far (k := w.heap.size) (j := 1) (by rw [World.size_alloc]; omega) nilS)
        obtain ⟨b, hb1, rfl, hb2⟩ := hbad
        clear hb1 hb2 hw HH
        go_wp2_with fail
        refine bodyPost_ret (results_ct rfl _ _ w.heap.size 25 #[nilS, nilS] (0, 0) _ rfl (blk_put (cs' := #[nilS, nilS]) (blk_put (cs' := #[nilS, nilS]) HX1.out 0 _ rfl) 1 _ rfl) Tryd.underlying25 rfl (by kernel_rfl)) rfl ?_
        exact ⟨((HR1.out.far hwl hgl (Nat.le_refl _) _).far hwl hgl (Nat.le_refl _) _).below, by rw [HT.out]; exact ⟨_, rfl, HBad.out.before (by rw [World.size_alloc]; omega)⟩⟩
      · rw [hw] at hW
        have hwb := within_bound hw
        obtain ⟨rfl, rfl⟩ := hW
        have HH2 : Hid (HD s p 1 n x1 x2 q1) := Lib.hid (by
          have h := HH.out
          obtain ⟨rfl, rfl, rfl, rfl⟩ := h; exact ⟨hw, rfl, rfl⟩)
        clear hw HH
        go_wp2_with fail
        go_roundw
        case rel => exact ⟨1, q1, n, x1, x2, rfl, by omega, hq1, HR1.out.far hwl hgl (by omega) _, blk_far HX1.out (by show w.heap.size ≠ w.heap.size + 1; omega) _, blk_put HY1.out 0 _ rfl, HH2⟩
        case measure => simp [intOf]
    | 1, _ =>
      have hix := ixs1 wr
      have HRa := Lib.hid (HR.out.alloc (.cells #[.int .i64 1, .int .i64 64] 106))
      have HXa := Lib.hid (blk_alloc HX.out (.cells #[.int .i64 1, .int .i64 64] 106))
      have HYa := Lib.hid (blk_alloc HY.out (.cells #[.int .i64 1, .int .i64 64] 106))
      go_wp2_with fail
      refine (within_any s g q 1 64 w0 _ HRa.out.is HRa.out.below hs hq).mono ?_
      rintro e w1 ⟨q1, hq1, hR, hW⟩
      have HR1 := Lib.hid (HRa.out.trans hR)
      have HX1 := Lib.hid (hR.keep.blk HXa.out (by omega) (by simp))
      have HY1 := Lib.hid (hR.keep.blk HYa.out (by omega) (by simp))
      have hsz1 := hR.size
      rw [World.size_alloc] at hsz1
      clear hR HR HX HY HRa HXa HYa hix
      have hx0 := blk_cell HX1.out 0
      have hx1 := blk_cell HX1.out 1
      have hx2 := blk_frozen HX1.out 0
      have hx3 := blk_frozen HX1.out 1
      have hy0 := blk_cell HY1.out 0
      have hy1 := blk_cell HY1.out 1
      have hy2 := blk_cell HY1.out 2
      have hf0 := blk_frozen HY1.out 0
      have hf1 := blk_frozen HY1.out 1
      have hf2 := blk_frozen HY1.out 2
      simp at hx0 hx1 hy0 hy1 hy2
      rcases hw : within s 1 64 q with _ | ⟨n, qn⟩
      · rw [hw] at hW
        obtain ⟨ev, rfl, hbad⟩ := hW
        have HT := Lib.hid (HD.bad1 HH.out hw)
        have HBad := Lib.hid ((hbad.far (k := w.heap.size) (j := 0) (by rw [World.size_alloc]; omega) nilS).far (k := w.heap.size) (j := 1) (by rw [World.size_alloc]; omega) nilS)
        obtain ⟨b, hb1, rfl, hb2⟩ := hbad
        clear hb1 hb2 hw HH
        go_wp2_with fail
        refine bodyPost_ret (results_ct rfl _ _ w.heap.size 25 #[nilS, nilS] (0, 0) _ rfl (blk_put (cs' := #[nilS, nilS]) (blk_put (cs' := #[nilS, nilS]) HX1.out 0 _ rfl) 1 _ rfl) Tryd.underlying25 rfl (by kernel_rfl)) rfl ?_
        exact ⟨((HR1.out.far hwl hgl (Nat.le_refl _) _).far hwl hgl (Nat.le_refl _) _).below, by rw [HT.out]; exact ⟨_, rfl, HBad.out.before (by rw [World.size_alloc]; omega)⟩⟩
      · rw [hw] at hW
        have hwb := within_bound hw
        obtain ⟨rfl, rfl⟩ := hW
        have HH2 : Hid (HD s p 2 x0 n x2 q1) := Lib.hid (by
          have h := HH.out
          obtain ⟨h1, rfl, rfl⟩ := h; exact ⟨q, h1, hw, rfl⟩)
        clear hw HH
        go_wp2_with fail
        go_roundw
        case rel => exact ⟨2, q1, x0, n, x2, rfl, by omega, hq1, HR1.out.far hwl hgl (by omega) _, blk_far HX1.out (by show w.heap.size ≠ w.heap.size + 1; omega) _, blk_put HY1.out 1 _ rfl, HH2⟩
        case measure => simp [intOf]
    | 2, _ =>
      have hix := ixs2 wr
      have HRa := Lib.hid (HR.out.alloc (.cells #[.int .i64 0, .int .i64 128] 106))
      have HXa := Lib.hid (blk_alloc HX.out (.cells #[.int .i64 0, .int .i64 128] 106))
      have HYa := Lib.hid (blk_alloc HY.out (.cells #[.int .i64 0, .int .i64 128] 106))
      go_wp2_with fail
      refine (within_any s g q 0 128 w0 _ HRa.out.is HRa.out.below hs hq).mono ?_
      rintro e w1 ⟨q1, hq1, hR, hW⟩
      have HR1 := Lib.hid (HRa.out.trans hR)
      have HX1 := Lib.hid (hR.keep.blk HXa.out (by omega) (by simp))
      have HY1 := Lib.hid (hR.keep.blk HYa.out (by omega) (by simp))
      have hsz1 := hR.size
      rw [World.size_alloc] at hsz1
      clear hR HR HX HY HRa HXa HYa hix
      have hx0 := blk_cell HX1.out 0
      have hx1 := blk_cell HX1.out 1
      have hx2 := blk_frozen HX1.out 0
      have hx3 := blk_frozen HX1.out 1
      have hy0 := blk_cell HY1.out 0
      have hy1 := blk_cell HY1.out 1
      have hy2 := blk_cell HY1.out 2
      have hf0 := blk_frozen HY1.out 0
      have hf1 := blk_frozen HY1.out 1
      have hf2 := blk_frozen HY1.out 2
      simp at hx0 hx1 hy0 hy1 hy2
      rcases hw : within s 0 128 q with _ | ⟨n, qn⟩
      · rw [hw] at hW
        obtain ⟨ev, rfl, hbad⟩ := hW
        have HT := Lib.hid (HD.bad2 HH.out hw)
        have HBad := Lib.hid ((hbad.far (k := w.heap.size) (j := 0) (by rw [World.size_alloc]; omega) nilS).far (k := w.heap.size) (j := 1) (by rw [World.size_alloc]; omega) nilS)
        obtain ⟨b, hb1, rfl, hb2⟩ := hbad
        clear hb1 hb2 hw HH
        go_wp2_with fail
        refine bodyPost_ret (results_ct rfl _ _ w.heap.size 25 #[nilS, nilS] (0, 0) _ rfl (blk_put (cs' := #[nilS, nilS]) (blk_put (cs' := #[nilS, nilS]) HX1.out 0 _ rfl) 1 _ rfl) Tryd.underlying25 rfl (by kernel_rfl)) rfl ?_
        exact ⟨((HR1.out.far hwl hgl (Nat.le_refl _) _).far hwl hgl (Nat.le_refl _) _).below, by rw [HT.out]; exact ⟨_, rfl, HBad.out.before (by rw [World.size_alloc]; omega)⟩⟩
      · rw [hw] at hW
        have hwb := within_bound hw
        obtain ⟨rfl, rfl⟩ := hW
        have HH2 : Hid (HD s p 3 x0 x1 n q1) := Lib.hid (by
          have h := HH.out
          obtain ⟨q2, h1, h2, rfl⟩ := h; exact ⟨q2, q, h1, h2, hw⟩)
        clear hw HH
        go_wp2_with fail
        go_roundw
        case rel => exact ⟨3, q1, x0, x1, n, rfl, by omega, hq1, HR1.out.far hwl hgl (by omega) _, blk_far HX1.out (by show w.heap.size ≠ w.heap.size + 1; omega) _, blk_put HY1.out 2 _ rfl, HH2⟩
        case measure => simp [intOf]
    | 3, _ =>
      rw [show ((3 : Nat) : Int) = 3 from rfl]
      obtain ⟨hT, b0, b1, b2, b3, b4, b5⟩ := HH.out.all
      obtain ⟨n0, rfl⟩ := Int.eq_ofNat_of_zero_le (show 0 ≤ x0 by omega)
      obtain ⟨n1, rfl⟩ := Int.eq_ofNat_of_zero_le (show 0 ≤ x1 by omega)
      obtain ⟨n2, rfl⟩ := Int.eq_ofNat_of_zero_le (show 0 ≤ x2 by omega)
      have HT := Lib.hid hT
      clear hT HH
      have hy0 := blk_cell HY.out 0
      simp at hy0
      have HS : Hid (St w0 (wr.alloc (.cells #[nilS, nilS] 25)) g (rdC s q) 83 wr.heap.size #[nilS, nilS] (fixT w.heap.size n0 n1 n2) nilS nilS nilS [] []) := Lib.hid {
        below := (HR.out.alloc _).below
        rd := (HR.out.alloc _).is.1
        rtp := by unfold plainT; decide
        tb := blk_new _ _
        ge := ⟨hgw, by omega, by have := blk_lt HR.out.is.1; omega⟩
        fixed := by
          intro f hf
          simp only [fixT, List.mem_cons, List.not_mem_nil, or_false] at hf
          rcases hf with rfl | rfl
          · exact ⟨blk_alloc HX.out _, plain25, by show w.heap.size ≠ g; omega, by show w.heap.size ≠ wr.heap.size; omega⟩
          · exact ⟨blk_alloc HY.out _, plain131, by show w.heap.size + 1 ≠ g; omega, by show w.heap.size + 1 ≠ wr.heap.size; omega⟩
        rA := Kd.R_apart_nil (Kd.R_nil _ _ _ _ _)
        rG := Kd.R_apart_nil (Kd.R_nil _ _ _ _ _) }
      have hbT : w.heap.size + 1 < wr.heap.size := hsz
      go_wp2_with fail
      clear hy0 HX HY HR hsz
      generalize hW3 : wr.alloc (.cells #[nilS, nilS] 25) = w3 at *
      generalize hbT2 : wr.heap.size = bT at *
      clear hW3 hbT2
      go_loopw [43] (fun v w' => ∃ (j q' : Nat) (vA : Value) (rows : List (List S93)), v = .int .i64 (j : Int) ∧ j ≤ n0 ∧ q' ≤ s.size ∧ Hid (rows.length = j) ∧ Hid (St w0 w' g (rdC s q') 83 bT #[vA, nilS] (fixT w.heap.size n0 n1 n2) nilS vA nilS rows []) ∧ Hid (cat rows (many (many (actR s n0) n1) (n0 - j) q') = many (many (actR s n0) n1) n0 q)) (fun v _ => n0 - (intOf v).toNat)
      case atStart => exact ⟨0, q, nilS, [], rfl, Nat.zero_le _, hq, Lib.hid rfl, HS, Lib.hid (by rw [Nat.sub_zero, cat_nil])⟩
      case round =>
        clear HS
        obtain ⟨j, qA, vA, rows, rfl, hj, hqA, hrl, HS, HC⟩ := hrel
        by_cases hjn : j < n0
        · have hjb : decide ((j : Int) < (n0 : Int)) = true := decide_eq_true (by omega)
          have hjw : IntKind.i64.wrap ((j : Int) + 1) = (j : Int) + 1 := IntWalk.i64_in _ (by omega)
          have hy1 := blk_cell (HS.out.fixed _ (List.mem_cons_of_mem _ List.mem_cons_self)).1 1
          simp at hy1
          go_wp2_with fail
          clear hy1
          have HRl : Hid (k93.R 93 wr w0.heap.size tru nilS []) := Kd.R_nil _ _ _ _ _
          go_loopw [47, 10] (fun v vl w' => ∃ (k q2 : Nat) (row : List S93), v = .int .i64 (k : Int) ∧ k ≤ n1 ∧ q2 ≤ s.size ∧ Hid (row.length = k) ∧ Hid (St w0 w' g (rdC s q2) 83 bT #[vA, nilS] (fixT w.heap.size n0 n1 n2) vl vA nilS rows []) ∧ Hid (k93.R 93 w' w0.heap.size tru vl row) ∧ Hid (cat row (many (actR s n0) (n1 - k) q2) = many (actR s n0) n1 qA)) (fun v _ _ => n1 - (intOf v).toNat)
          case atStart => exact ⟨0, qA, [], rfl, Nat.zero_le _, hqA, Lib.hid rfl, HS, HRl, Lib.hid (by rw [Nat.sub_zero, cat_nil])⟩
          case round =>
            clear HS HRl
            obtain ⟨k, q2, row, rfl, hk, hq2, hkl, HS, HRl, HCr⟩ := hrel
            by_cases hkn : k < n1
            · have hkb : decide ((k : Int) < (n1 : Int)) = true := decide_eq_true (by omega)
              have hkw : IntKind.i64.wrap ((k : Int) + 1) = (k : Int) + 1 := IntWalk.i64_in _ (by omega)
              have hy0 := blk_cell (HS.out.fixed _ (List.mem_cons_of_mem _ List.mem_cons_self)).1 0
              simp at hy0
              go_wp2_with fail
              refine (action_any s g q2 (n0 : Int) w0 _ ⟨HS.out.rd, hgw⟩ HS.out.below hs hq2 (by omega)).mono ?_
              rintro e w4 ⟨q3, hq3, hR, hA⟩
              have HS4 := Lib.hid (HS.out.call hR.keep hR.is.1 hR.below)
              have HRl4 : Hid (k93.R 93 w4 w0.heap.size tru u10 row) := Lib.hid (Kd.R_mono (Kd.R_keep (Kd.R_types HRl.out HS.out.rd (k93_E 83 (by decide))) hR.keep (fun _ hk => hk.2)) (fun _ hk => hk.1))
              have hNl : w.heap.size < wr.heap.size := blk_lt (HS.out.fixed _ List.mem_cons_self).1
              clear hR HS HRl hy0
              rcases ha : actS s n0 q2 with _ | ⟨a, qa⟩
              · rw [ha] at hA
                obtain ⟨ev, rfl, hbad⟩ := hA
                have HX := Lib.hid (HS4.out.fixed _ List.mem_cons_self).1
                have hx0 := blk_cell HX.out 0
                have hx1 := blk_cell HX.out 1
                have hx2 := blk_frozen HX.out 0
                have hx3 := blk_frozen HX.out 1
                simp at hx0 hx1
                have hbo : tabS s p = .error q2 := by
                  have e1 : actR s n0 q2 = .error q2 := by unfold actR; rw [ha]
                  have e2 := HCr.out
                  obtain ⟨m1, hm1⟩ : ∃ m, n1 - k = m + 1 := ⟨n1 - k - 1, by omega⟩
                  rw [hm1, cat_bad row e1] at e2
                  have e3 := HC.out
                  obtain ⟨m2, hm2⟩ : ∃ m, n0 - j = m + 1 := ⟨n0 - j - 1, by omega⟩
                  rw [hm2, cat_bad rows e2.symm] at e3
                  rw [HT.out]
                  unfold bodS
                  simp only [Int.toNat_natCast]
                  rw [← e3]
                have HT2 := Lib.hid hbo
                have HBad := Lib.hid ((hbad.far (k := w.heap.size) (j := 0) hNl nilS).far (k := w.heap.size) (j := 1) hNl nilS)
                have HB4 := Lib.hid HS4.out.below
                have hN4 : w.heap.size < w4.heap.size := blk_lt HX.out
                obtain ⟨b, hb1, rfl, hb2⟩ := hbad
                clear hbo hb1 hb2 ha HC HCr
                go_wp2_with fail
                refine bodyPost_ret (results_ct rfl _ _ w.heap.size 25 #[nilS, nilS] (0, 0) _ rfl (blk_alloc (blk_put (cs' := #[nilS, nilS]) (blk_put (cs' := #[nilS, nilS]) HX.out 0 _ rfl) 1 _ rfl) _) Tryd.underlying25 rfl (by kernel_rfl)) rfl ?_
                exact ⟨below_alloc (below_set (below_set HB4.out hwl) hwl) _, by rw [HT2.out]; exact ⟨_, rfl, (HBad.out.alloc _).before (by omega)⟩⟩
              · rw [ha] at hA
                obtain ⟨rfl, rfl⟩ := hA
                have e2 := HCr.out
                obtain ⟨m1, hm1⟩ : ∃ m, n1 - k = m + 1 := ⟨n1 - k - 1, by omega⟩
                rw [hm1, cat_more row (x := a) (q' := q3) (by unfold actR; rw [ha]), show m1 = n1 - (k + 1) by omega] at e2
                have HCr2 := Lib.hid e2
                have HSa := Lib.hid ((HS4.out.alloc (.cells #[.int .i64 a.f0, .int .i64 a.f1] 93)).alloc (.cells #[.int .i64 a.f0, .int .i64 a.f1] 93))
                have HRa := Lib.hid (Kd.R_alloc (Kd.R_alloc HRl4.out (.cells #[.int .i64 a.f0, .int .i64 a.f1] 93)) (.cells #[.int .i64 a.f0, .int .i64 a.f1] 93))
                have hLa := blk_new (w4.alloc (.cells #[.int .i64 a.f0, .int .i64 a.f1] 93)) (.cells #[.int .i64 a.f0, .int .i64 a.f1] 93)
                rw [World.size_alloc] at hLa
                have HLa := Lib.hid hLa
                have hbo : (row.length + 1) * 16 ≤ 140737488355328 := by have := hkl.out; omega
                clear ha e2 HCr HS4 HRl4 hm1 hLa
                go_wp2_with ((with_reducible refine gate_builtin (b := .append) (xs := #[.tmp 60, .tmp 62]) rfl ?_); at_builtin; refine Kd.R_append_rows k93 (w0 := w0) w0.heap.size rfl (.tmp 60) (.tmp 62) 90 93 (.agg #[.int .i64 0, .int .i64 0]) 16 rfl Tryd.underlying90 info93 rfl (by decide) (by omega) _ row [a] (some ⟨w4.heap.size + 1, 0, none⟩) 1 1 tru (fun _ => False) rfl rfl HRa.out (C_one93 HLa.out) (fun _ _ h => h) (fun _ h => h.elim) (fun _ _ => trivial) HSa.out.below HSa.out.below.size hbo ?_; intro v1 w5 ho5 hb5 hg5 hat5)
                have HS5 := Lib.hid (HSa.out.app (.inl rfl) (typed_of HRa.out) hg5 hat5 hb5)
                have HR5 := Lib.hid ho5
                clear ho5 hb5 hg5 hat5 HSa HRa HLa
                go_wp2_with fail
                go_roundw
                case rel => exact ⟨k + 1, q3, row ++ [a], by rw [Int.natCast_add]; rfl, by omega, hq3, Lib.hid (by rw [List.length_append, hkl.out]; rfl), HS5, HR5, HCr2⟩
                case measure => simp only [intOf]; omega
            · obtain rfl : k = n1 := by omega
              obtain ⟨Al, cl, rfl⟩ := Kd.R_slice HRl.out
              obtain ⟨AA, cA, eA⟩ := Kd.R_slice (Kd.R_drop HS.out.rA)
              subst eA
              have e2 := HCr.out
              rw [Nat.sub_self, cat_done] at e2
              have e3 := HC.out
              obtain ⟨m2, hm2⟩ : ∃ m, n0 - j = m + 1 := ⟨n0 - j - 1, by omega⟩
              rw [hm2, cat_more rows e2.symm, show m2 = n0 - (j + 1) by omega] at e3
              have HC3 := Lib.hid e3
              have hta := blk_cell HS.out.tb 0
              have htf := blk_frozen HS.out.tb 0
              simp at hta
              have HM := Lib.hid (Kd.M_row (R_ne_types HRl.out (Kd.R_drop HS.out.rA) (k93_E 90 (by decide))))
              have HA0 := Lib.hid (Kd.R_drop HS.out.rA)
              have hbo : (rows.length + 1) * 24 ≤ 140737488355328 := by have := hrl.out; omega
              have hkb : decide ((k : Int) < (k : Int)) = false := decide_eq_false (by omega)
              clear e2 e3 HC HCr hm2
              go_wp2_with ((with_reducible refine gate_builtin (b := .append) (xs := #[.tmp 66, .tmp 68]) rfl ?_); at_builtin; refine Kd.R_append kA (w0 := w0) (W := wr) w0.heap.size rfl (.tmp 66) (.tmp 68) 22 90 (.slice none 0 0) 24 rfl Tryd.underlying22 info90 rfl (by decide) (by omega) (.slice AA rows.length cA) rows row [.slice Al row.length cl] tru (fun k => some k ≠ (Value.slice AA rows.length cA).ownBlock) rfl rfl HM.out (fun _ hk => ⟨trivial, hk⟩) (fun _ _ => trivial) HA0.out HS.out.below HS.out.below.size hbo ?_; intro v1 w5 ho5 hb5 hg5 hat5; obtain ⟨A5, c5, e5⟩ := Kd.R_slice ho5; rw [List.length_append, List.length_singleton] at e5; subst e5; have HS5 := Lib.hid (HS.out.drop.appA ho5 hg5 hb5); have q5 := blk_cell HS5.out.tb 0; have qf := blk_frozen HS5.out.tb 0; simp only [List.getElem?_toArray, List.getElem?_cons_zero] at q5; clear ho5 hb5 hg5 hat5 hta htf)
              go_roundw
              case rel => exact ⟨j + 1, q2, _, rows ++ [row], by rw [Int.natCast_add]; rfl, by omega, hq2, Lib.hid (by rw [List.length_append, hrl.out]; rfl), HS5.out.setT 0 _ rfl, HC3⟩
              case measure => simp only [intOf]; omega
        · obtain rfl : j = n0 := by omega
          have hC := HC.out
          rw [Nat.sub_self, cat_done] at hC
          have HCA := Lib.hid hC.symm
          have hy0 := blk_cell (HS.out.fixed _ (List.mem_cons_of_mem _ List.mem_cons_self)).1 0
          simp at hy0
          have hjb : decide ((j : Int) < (j : Int)) = false := decide_eq_false (by omega)
          clear hC HC
          go_wp2_with fail
          clear hy0 hjb
          go_loopw [74] (fun v w' => ∃ (i q' : Nat) (vG : Value) (gos : List (List Int)), v = .int .i64 (i : Int) ∧ i ≤ j ∧ q' ≤ s.size ∧ Hid (gos.length = i) ∧ Hid (St w0 w' g (rdC s q') 83 bT #[vA, vG] (fixT w.heap.size j n1 n2) nilS vA vG rows gos) ∧ Hid (cat gos (many (many (goR s j) n2) (j - i) q') = many (many (goR s j) n2) j qA)) (fun v _ => j - (intOf v).toNat)
          case atStart => exact ⟨0, qA, nilS, [], rfl, Nat.zero_le _, hqA, Lib.hid rfl, HS, Lib.hid (by rw [Nat.sub_zero, cat_nil])⟩
          case round =>
            clear HS
            obtain ⟨i, q', vG, gos, rfl, hi2, hq', hgl2, HS, HC⟩ := hrel
            by_cases hin : i < j
            · have hib : decide ((i : Int) < (j : Int)) = true := decide_eq_true (by omega)
              have hiw : IntKind.i64.wrap ((i : Int) + 1) = (i : Int) + 1 := IntWalk.i64_in _ (by omega)
              have hy2 := blk_cell (HS.out.fixed _ (List.mem_cons_of_mem _ List.mem_cons_self)).1 2
              simp at hy2
              go_wp2_with fail
              clear hy2
              have HRl : Hid (kI.R 3 wr w0.heap.size tru nilS []) := Kd.R_nil _ _ _ _ _
              go_loopw [78, 13] (fun v vl w' => ∃ (k q2 : Nat) (row : List Int), v = .int .i64 (k : Int) ∧ k ≤ n2 ∧ q2 ≤ s.size ∧ Hid (row.length = k) ∧ Hid (St w0 w' g (rdC s q2) 83 bT #[vA, vG] (fixT w.heap.size j n1 n2) vl vA vG rows gos) ∧ Hid (kI.R 3 w' w0.heap.size tru vl row) ∧ Hid (cat row (many (goR s j) (n2 - k) q2) = many (goR s j) n2 q')) (fun v _ _ => n2 - (intOf v).toNat)
              case atStart => exact ⟨0, q', [], rfl, Nat.zero_le _, hq', Lib.hid rfl, HS, HRl, Lib.hid (by rw [Nat.sub_zero, cat_nil])⟩
              case round =>
                clear HS HRl
                obtain ⟨k, q2, row, rfl, hk, hq2, hkl, HS, HRl, HCr⟩ := hrel
                by_cases hkn : k < n2
                · have hkb : decide ((k : Int) < (n2 : Int)) = true := decide_eq_true (by omega)
                  have hkw : IntKind.i64.wrap ((k : Int) + 1) = (k : Int) + 1 := IntWalk.i64_in _ (by omega)
                  have hy0 := blk_cell (HS.out.fixed _ (List.mem_cons_of_mem _ List.mem_cons_self)).1 0
                  simp at hy0
                  go_wp2_with fail
                  refine (within_any s g q2 0 (j : Int) w0 _ ⟨HS.out.rd, hgw⟩ HS.out.below hs hq2).mono ?_
                  rintro e w4 ⟨q3, hq3, hR, hA⟩
                  have HS4 := Lib.hid (HS.out.call hR.keep hR.is.1 hR.below)
                  have HRl4 : Hid (kI.R 3 w4 w0.heap.size tru u13 row) := Lib.hid (Kd.R_mono (Kd.R_keep (Kd.R_types HRl.out HS.out.rd (kI_E 83 (by decide))) hR.keep (fun _ hk => hk.2)) (fun _ hk => hk.1))
                  have hNl : w.heap.size < wr.heap.size := blk_lt (HS.out.fixed _ List.mem_cons_self).1
                  clear hR HS HRl hy0
                  rcases ha : within s 0 j q2 with _ | ⟨a, qa⟩
                  · rw [ha] at hA
                    obtain ⟨ev, rfl, hbad⟩ := hA
                    have HX := Lib.hid (HS4.out.fixed _ List.mem_cons_self).1
                    have hx0 := blk_cell HX.out 0
                    have hx1 := blk_cell HX.out 1
                    have hx2 := blk_frozen HX.out 0
                    have hx3 := blk_frozen HX.out 1
                    simp at hx0 hx1
                    have hbo : tabS s p = .error q2 := by
                      have e1 : goR s j q2 = .error q2 := by unfold goR; rw [ha]
                      have e2 := HCr.out
                      obtain ⟨m1, hm1⟩ : ∃ m, n2 - k = m + 1 := ⟨n2 - k - 1, by omega⟩
                      rw [hm1, cat_bad row e1] at e2
                      have e3 := HC.out
                      obtain ⟨m2, hm2⟩ : ∃ m, j - i = m + 1 := ⟨j - i - 1, by omega⟩
                      rw [hm2, cat_bad gos e2.symm] at e3
                      rw [HT.out]
                      unfold bodS
                      simp only [Int.toNat_natCast]
                      rw [HCA.out]
                      simp only
                      rw [← e3]
                    have HT2 := Lib.hid hbo
                    have HBad := Lib.hid ((hbad.far (k := w.heap.size) (j := 0) hNl nilS).far (k := w.heap.size) (j := 1) hNl nilS)
                    have HB4 := Lib.hid HS4.out.below
                    have hN4 : w.heap.size < w4.heap.size := blk_lt HX.out
                    obtain ⟨b, hb1, rfl, hb2⟩ := hbad
                    clear hbo hb1 hb2 ha HC HCr
                    go_wp2_with fail
                    refine bodyPost_ret (results_ct rfl _ _ w.heap.size 25 #[nilS, nilS] (0, 0) _ rfl (blk_put (cs' := #[nilS, nilS]) (blk_put (cs' := #[nilS, nilS]) HX.out 0 _ rfl) 1 _ rfl) Tryd.underlying25 rfl (by kernel_rfl)) rfl ?_
                    exact ⟨below_set (below_set HB4.out hwl) hwl, by rw [HT2.out]; exact ⟨_, rfl, HBad.out.before (by omega)⟩⟩
                  · rw [ha] at hA
                    have hab := within_bound ha
                    obtain ⟨rfl, rfl⟩ := hA
                    have e2 := HCr.out
                    obtain ⟨m1, hm1⟩ : ∃ m, n2 - k = m + 1 := ⟨n2 - k - 1, by omega⟩
                    rw [hm1, cat_more row (x := a - 1) (q' := q3) (by unfold goR; rw [ha]), show m1 = n2 - (k + 1) by omega] at e2
                    have HCr2 := Lib.hid e2
                    obtain ⟨ha0, ha1, _, _⟩ := hab
                    simp only at ha0 ha1
                    have haw : IntKind.i64.wrap (a - 1) = a - 1 := IntWalk.i64_in _ (by omega)
                    have HSa := Lib.hid (HS4.out.alloc (.cells #[.int .i64 (a - 1)] 3))
                    have HRa := Lib.hid (Kd.R_alloc HRl4.out (.cells #[.int .i64 (a - 1)] 3))
                    have HLa := Lib.hid (blk_new w4 (.cells #[.int .i64 (a - 1)] 3))
                    have hbo : (row.length + 1) * 8 ≤ 140737488355328 := by have := hkl.out; omega
                    clear ha e2 HCr HS4 HRl4 hm1
                    go_wp2_with ((with_reducible refine gate_builtin (b := .append) (xs := #[.tmp 91, .tmp 94]) rfl ?_); at_builtin; refine Kd.R_append_rows kI (w0 := w0) w0.heap.size rfl (.tmp 91) (.tmp 94) 95 3 (.int .i64 0) 8 rfl Tryd.underlying95 info3 rfl (by decide) (by omega) _ row [a - 1] (some ⟨w4.heap.size, 0, none⟩) 1 1 tru (fun _ => False) rfl rfl HRa.out (C_one3 HLa.out) (fun _ _ h => h) (fun _ h => h.elim) (fun _ _ => trivial) HSa.out.below HSa.out.below.size hbo ?_; intro v1 w5 ho5 hb5 hg5 hat5)
                    have HS5 := Lib.hid (HSa.out.app (.inr rfl) (typed_of HRa.out) hg5 hat5 hb5)
                    have HR5 := Lib.hid ho5
                    clear ho5 hb5 hg5 hat5 HSa HRa HLa
                    go_wp2_with fail
                    go_roundw
                    case rel => exact ⟨k + 1, q3, row ++ [a - 1], by rw [Int.natCast_add]; rfl, by omega, hq3, Lib.hid (by rw [List.length_append, hkl.out]; rfl), HS5, HR5, HCr2⟩
                    case measure => simp only [intOf]; omega
                · obtain rfl : k = n2 := by omega
                  obtain ⟨Al, cl, rfl⟩ := Kd.R_slice HRl.out
                  obtain ⟨AA, cA, eA⟩ := Kd.R_slice (Kd.R_drop HS.out.rG)
                  subst eA
                  have e2 := HCr.out
                  rw [Nat.sub_self, cat_done] at e2
                  have e3 := HC.out
                  obtain ⟨m2, hm2⟩ : ∃ m, j - i = m + 1 := ⟨j - i - 1, by omega⟩
                  rw [hm2, cat_more gos e2.symm, show m2 = j - (i + 1) by omega] at e3
                  have HC3 := Lib.hid e3
                  have hta := blk_cell HS.out.tb 1
                  have htf := blk_frozen HS.out.tb 1
                  simp at hta
                  have HM := Lib.hid (Kd.M_row (R_ne_types HRl.out (Kd.R_drop HS.out.rG) (kI_E 95 (by decide))))
                  have HA0 := Lib.hid (Kd.R_drop HS.out.rG)
                  have hbo : (gos.length + 1) * 24 ≤ 140737488355328 := by have := hgl2.out; omega
                  have hkb : decide ((k : Int) < (k : Int)) = false := decide_eq_false (by omega)
                  clear e2 e3 HC HCr hm2
                  go_wp2_with ((with_reducible refine gate_builtin (b := .append) (xs := #[.tmp 98, .tmp 100]) rfl ?_); at_builtin; refine Kd.R_append kG (w0 := w0) (W := wr) w0.heap.size rfl (.tmp 98) (.tmp 100) 23 95 (.slice none 0 0) 24 rfl Tryd.underlying23 info95 rfl (by decide) (by omega) (.slice AA gos.length cA) gos row [.slice Al row.length cl] tru (fun k => some k ≠ (Value.slice AA gos.length cA).ownBlock) rfl rfl HM.out (fun _ hk => ⟨trivial, hk⟩) (fun _ _ => trivial) HA0.out HS.out.below HS.out.below.size hbo ?_; intro v1 w5 ho5 hb5 hg5 hat5; obtain ⟨A5, c5, e5⟩ := Kd.R_slice ho5; rw [List.length_append, List.length_singleton] at e5; subst e5; have HS5 := Lib.hid (HS.out.drop.appG ho5 hg5 hb5); have q5 := blk_cell HS5.out.tb 1; have qf := blk_frozen HS5.out.tb 1; simp only [List.getElem?_toArray, List.getElem?_cons_zero, List.getElem?_cons_succ] at q5; clear ho5 hb5 hg5 hat5 hta htf)
                  go_roundw
                  case rel => exact ⟨i + 1, q2, _, gos ++ [row], by rw [Int.natCast_add]; rfl, by omega, hq2, Lib.hid (by rw [List.length_append, hgl2.out]; rfl), HS5.out.setT 1 _ rfl, HC3⟩
                  case measure => simp only [intOf]; omega
            · obtain rfl : i = j := by omega
              have hC := HC.out
              rw [Nat.sub_self, cat_done] at hC
              have hib : decide ((i : Int) < (i : Int)) = false := decide_eq_false (by omega)
              have hT : tabS s p = if q' < s.size then .error q' else .ok (rows, gos) := by
                rw [HT.out]
                unfold bodS
                simp only [Int.toNat_natCast]
                rw [HCA.out]
                simp only
                rw [← hC]
              have HT2 := Lib.hid hT
              clear hC HC hT HT HCA
              obtain ⟨AA, cA, eA⟩ := Kd.R_slice (Kd.R_drop HS.out.rA)
              obtain ⟨AG, cG, eG⟩ := Kd.R_slice (Kd.R_drop HS.out.rG)
              subst eA
              subst eG
              have hr0 := blk_cell HS.out.rd 0
              have hr1 := blk_cell HS.out.rd 1
              simp at hr0 hr1
              have HX := Lib.hid (HS.out.fixed _ List.mem_cons_self).1
              have hx0 := blk_cell HX.out 0
              have hx1 := blk_cell HX.out 1
              have hx2 := blk_frozen HX.out 0
              have hx3 := blk_frozen HX.out 1
              simp at hx0 hx1
              have ht0 := blk_cell HS.out.tb 0
              have ht1 := blk_cell HS.out.tb 1
              simp at ht0 ht1
              by_cases hqs : q' < s.size
              · go_wp2_with fail
                go_quiet (fail)
                have HSX := Lib.hid (HS.out.drewN nq)
                clear hr0 hr1 hx0 hx1 hx2 hx3 ht0 ht1 HX HS
                generalize wr.drewN nq = X at *
                have hr0 := blk_cell HSX.out.rd 0
                have hr1 := blk_cell HSX.out.rd 1
                simp at hr0 hr1
                have HX := Lib.hid (HSX.out.fixed _ List.mem_cons_self).1
                have hx0 := blk_cell HX.out 0
                have hx1 := blk_cell HX.out 1
                have hx2 := blk_frozen HX.out 0
                have hx3 := blk_frozen HX.out 1
                simp at hx0 hx1
                have hNX := blk_lt HX.out
                have hgX : g < X.heap.size := blk_lt HSX.out.rd
                go_wp2_with fail
                go_region
                go_wp2_with fail
                refine bodyPost_ret (results_ct rfl _ _ w.heap.size 25 #[nilS, nilS] (0, 0) _ rfl (blk_drew (blk_alloc (blk_put (cs' := #[nilS, nilS]) (blk_put (cs' := #[nilS, nilS]) HX.out 0 _ rfl) 1 _ rfl) _)) Tryd.underlying25 rfl (by kernel_rfl)) rfl ?_
                refine ⟨below_drew (below_alloc (below_set (below_set HSX.out.below hwl) hwl) _), ?_⟩
                rw [HT2.out, if_pos hqs]
                exact ⟨_, rfl, X.heap.size, Nat.le_of_lt (by omega), rfl, blk_drew (blk_new_set2 _ _ _ _ _ _)⟩
              · go_wp2_with fail
                go_quiet (fail)
                have HSX := Lib.hid (HS.out.drewN nq)
                clear hr0 hr1 hx0 hx1 hx2 hx3 ht0 ht1 HX HS
                generalize wr.drewN nq = X at *
                have ht0 := blk_cell HSX.out.tb 0
                have ht1 := blk_cell HSX.out.tb 1
                simp at ht0 ht1
                have HX := Lib.hid (HSX.out.fixed _ List.mem_cons_self).1
                have hx0 := blk_cell HX.out 0
                have hx1 := blk_cell HX.out 1
                have hx2 := blk_frozen HX.out 0
                have hx3 := blk_frozen HX.out 1
                simp at hx0 hx1
                go_wp2_with fail
                refine bodyPost_ret (results_ct rfl _ _ w.heap.size 25 #[.slice AA rows.length cA, .slice AG gos.length cG] (0, 0) _ rfl (blk_put (cs' := #[.slice AA rows.length cA, .slice AG gos.length cG]) (blk_put (cs' := #[.slice AA rows.length cA, nilS]) HX.out 0 _ rfl) 1 _ rfl) Tryd.underlying25 rfl (by kernel_rfl)) rfl ?_
                refine ⟨below_set (below_set HSX.out.below hwl) hwl, ?_⟩
                rw [HT2.out, if_neg hqs]
                refine ⟨_, _, rfl, ?_, ?_⟩
                · exact Kd.R_set (Kd.R_set (Kd.R_drop HSX.out.rA) HX.out (kA_E plain25) 0 _) (blk_set HX.out 0 _) (kA_E plain25) 1 _
                · exact Kd.R_set (Kd.R_set (Kd.R_drop HSX.out.rG) HX.out (kG_E plain25) 0 _) (blk_set HX.out 0 _) (kG_E plain25) 1 _
end Dec
end Go.Proofs.YtcijanmckhlpiaaDoor
