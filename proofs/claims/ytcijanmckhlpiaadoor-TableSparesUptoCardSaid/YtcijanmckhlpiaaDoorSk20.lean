-- Texts of this seat, cut to what is used and merged (by shake.py).
import Derived.Test.YtcijanmckhlpiaaDoorSk12
import Derived.Test.YtcijanmckhlpiaaDoorSk16
import Derived.Test.YtcijanmckhlpiaaDoorSk17
import Derived.Test.YtcijanmckhlpiaaDoorSk19
set_option linter.unusedVariables false
set_option linter.unusedSimpArgs false
namespace Go.Proofs.YtcijanmckhlpiaaDoor
open Go.RowKit Go.Proofs.YtcijanmckhlpiaaDoorW.PrintWords Go.Proofs.YtcijanmckhlpiaaDoorW.PrintLast Go.Proofs.YtcijanmckhlpiaaDoorW.PrintMore Go.Proofs.YtcijanmckhlpiaaDoor.PTableBack
namespace Enc
theorem w64n {i : Nat} (h : i + 1 ≤ 9223372036854775807) : wrap64 ((i : Int) + 1) = ((i + 1 : Nat) : Int) := by unfold wrap64; omega
theorem rdT_nat (row : List S93) (i : Nat) (h : i < row.length) : rd_T93 row (i : Int) = row[i] := by
 unfold rd_T93; rw [Int.toNat_natCast, List.getD_eq_getElem?_getD, List.getElem?_eq_getElem h]; rfl
theorem rd_nat (row : List Int) (i : Nat) (h : i < row.length) : rd row (i : Int) = row[i] := by
 unfold rd; rw [Int.toNat_natCast, List.getD_eq_getElem?_getD, List.getElem?_eq_getElem h]; rfl
theorem rdL2_nat (l : List (List S93)) (i : Nat) (h : i < l.length) : rd_L2 l (i : Int) = l[i] := by
 unfold rd_L2; rw [Int.toNat_natCast, List.getD_eq_getElem?_getD, List.getElem?_eq_getElem h]; rfl
theorem rdL3_nat (l : List (List Int)) (i : Nat) (h : i < l.length) : rd_L3 l (i : Int) = l[i] := by
 unfold rd_L3; rw [Int.toNat_natCast, List.getD_eq_getElem?_getD, List.getElem?_eq_getElem h]; rfl
def fitsB (n : Int) (a : S93) : Bool := if a.f0 = 0 ∨ a.f0 = 3 then a.f1 == 0 else if a.f0 = 1 then (if a.f1 ≥ 0 then decide (a.f1 < n) else false) else if a.f0 = 2 then (if a.f1 ≥ 0 then decide (a.f1 < 256) else false) else false
theorem fits_ev (a : S93) (n : Int) : Ev (fun k => table_fits.f k a.f0 a.f1 n) (fitsB n a) := by
 refine Ev.congr (f := fun k => table_fits.j0 k n a.f0 (decide (a.f0 = 0 ∨ a.f0 = 3)) a.f0 a.f1) (fun k => ?_) ?_
 ·unfold table_fits.f; by_cases h : a.f0 = 0
  ·simp [h]
  ·rw [if_neg h]
   congr 1
   by_cases h3 : a.f0 = 3 <;> simp [h, h3]
 ·refine Ev.step (f := fun _ => some (fitsB n a)) (fun k => ?_) (Ev.now _)
  simp only [table_fits.j0, fitsB, decide_eq_true_eq]
  split
  ·rfl
  ·split
   ·split <;> rfl
   ·split
    ·split <;> rfl
    ·rfl
def inrB (n : Int) (g : Int) : Bool := !(decide (g < -1)) && !(decide (g ≥ n))
def shRows (n terms syms : Int) : List (List S93) → List (List Int) → Bool
 | r :: rs, g :: gs => decide ((r.length : Int) = terms) && !((g.length : Int) != syms) && (r.all (fitsB n) && (g.all (inrB n) && shRows n terms syms rs gs))
 | _, _ => true
def shB (l : List (List S93)) (m : List (List Int)) : Bool :=
 decide (1 ≤ l.length ∧ l.length ≤ 2048 ∧ m.length = l.length ∧ 1 ≤ (rd_L2 l 0).length ∧ (rd_L2 l 0).length ≤ 64 ∧ (rd_L3 m 0).length ≤ 128) && shRows l.length (rd_L2 l 0).length (rd_L3 m 0).length l m
theorem sh_l2 (l : List (List S93)) (m : List (List Int)) (x3 x4 x5 x47 : Int) (s : Nat) (g : List Int) (hg : g.length ≤ 9223372036854775807) (NX : Bool) (hn : Ev (fun k => table_shaped.l0 k x3 x4 x5 x47 (wrap64 ((s : Int) + 1)) l m) NX) :
  ∀ (d i : Nat), g.length - i = d → i ≤ g.length → Ev (fun k => table_shaped.l2 k x3 x4 x5 x47 s g (g.length : Int) i l m) ((g.drop i).all (inrB x3) && NX) := by
 intro d
 induction d with
 | zero =>
  intro i hd hi; rw [List.drop_eq_nil_of_le (by omega)]
  simp only [List.all_nil, Bool.true_and]; exact Ev.step (fun k => by simp only [table_shaped.l2]; rw [if_neg (by omega)]) hn
 | succ d ih =>
  intro i hd hi; have hlt : i < g.length := by omega
  have h := ih (i + 1) (by omega) (by omega)
  rw [List.drop_eq_getElem_cons hlt]; simp only [List.all_cons, inrB]; have hs : ∀ k, table_shaped.l2 (k + 1) x3 x4 x5 x47 s g (g.length : Int) i l m = (if g[i] < -1 then some false else if g[i] ≥ x3 then some false else table_shaped.l2 k x3 x4 x5 x47 s g (g.length : Int) ((i + 1 : Nat) : Int) l m) := by
   intro k; simp only [table_shaped.l2]; rw [if_pos (by omega), if_pos (by omega), if_pos (by omega), rd_nat g i hlt, w64n (by omega)]
  refine Ev.step hs ?_; by_cases h1 : g[i] < -1
  ·simp only [if_pos h1, decide_eq_true h1, Bool.not_true, Bool.false_and]; exact Ev.now _
  ·by_cases h2 : g[i] ≥ x3
   ·simp only [if_neg h1, if_pos h2, decide_eq_true h2, Bool.not_true, Bool.and_false, Bool.false_and]; exact Ev.now _
   ·simp only [if_neg h1, if_neg h2, decide_eq_false h1, decide_eq_false h2, Bool.not_false, Bool.true_and]; exact h
theorem sh_l1 (l : List (List S93)) (m : List (List Int)) (x3 x4 x5 x47 : Int) (s : Nat) (hs : s < m.length) (r : List S93) (hr : r.length ≤ 9223372036854775807) (NX : Bool) (hn : Ev (fun k => table_shaped.l2 k x3 x4 x5 x47 s (m[s]) ((m[s]).length : Int) ((0 : Nat) : Int) l m) NX) :
  ∀ (d i : Nat), r.length - i = d → i ≤ r.length → Ev (fun k => table_shaped.l1 k x3 x4 x5 s x47 s r (r.length : Int) i l m) ((r.drop i).all (fitsB x3) && NX) := by
 intro d
 induction d with
 | zero =>
  intro i hd hi; rw [List.drop_eq_nil_of_le (by omega)]
  simp only [List.all_nil, Bool.true_and]; exact Ev.step (fun k => by simp only [table_shaped.l1]; rw [if_neg (by omega), if_pos (by omega), if_pos (by omega), rdL3_nat m s hs]; rfl) hn
 | succ d ih =>
  intro i hd hi; have hlt : i < r.length := by omega
  have h := ih (i + 1) (by omega) (by omega)
  rw [List.drop_eq_getElem_cons hlt]; simp only [List.all_cons]; have hs : ∀ k, table_shaped.l1 (k + 1) x3 x4 x5 s x47 s r (r.length : Int) i l m = (table_fits.f k (r[i]).f0 (r[i]).f1 x3).bind fun t => (if t = true then table_shaped.l1 k x3 x4 x5 s x47 s r (r.length : Int) ((i + 1 : Nat) : Int) l m else some false) := by
   intro k; simp only [table_shaped.l1]; rw [if_pos (by omega), if_pos (by omega), if_pos (by omega), rdT_nat r i hlt, w64n (by omega)]
  refine Ev.step hs (Ev.bind (fits_ev _ _) ?_); cases fitsB x3 r[i] with
  | true => simpa using h
  | false => exact Ev.now _
theorem sh_l0 (l : List (List S93)) (m : List (List Int)) (hl : l.length ≤ 2048) (hm : m.length = l.length) (hbl : ∀ x ∈ l, x.length ≤ 9223372036854775807) (hbm : ∀ x ∈ m, x.length ≤ 9223372036854775807) (x4 x5 : Int) :
  ∀ (d s : Nat), l.length - s = d → s ≤ l.length → Ev (fun k => table_shaped.l0 k (l.length : Int) x4 x5 (l.length : Int) s l m) (shRows l.length x4 x5 (l.drop s) (m.drop s)) := by
 intro d
 induction d with
 | zero =>
  intro s hd hs; rw [List.drop_eq_nil_of_le (by omega)]
  exact Ev.step (f := fun _ => some true) (fun k => by simp only [table_shaped.l0]; rw [if_neg (by omega)]) (Ev.now _)
 | succ d ih =>
  intro s hd hs; have hlt : s < l.length := by omega
  have hlm : s < m.length := by omega
  have h := ih (s + 1) (by omega) (by omega)
  rw [List.drop_eq_getElem_cons hlt, List.drop_eq_getElem_cons hlm]; simp only [shRows]; refine Ev.step (f := fun k => table_shaped.j3 k (l.length : Int) x4 x5 s (l.length : Int) s (!(decide (((l[s]).length : Int) = x4) && !(((m[s]).length : Int) != x5))) l m) (fun k => ?_) ?_
  ·simp only [table_shaped.l0]; rw [if_pos (by omega), if_pos (by omega), if_pos (by omega), rdL2_nat l s hlt, rdL3_nat m s hlm]
   by_cases h1 : ((l[s]).length : Int) = x4
   ·rw [if_pos h1, if_pos (by omega), decide_eq_true h1, Bool.true_and, Bool.not_not]
   ·rw [if_neg h1, decide_eq_false h1, Bool.false_and, Bool.not_false]
  ·cases hc : (decide (((l[s]).length : Int) = x4) && !(((m[s]).length : Int) != x5)) with
   | false => exact Ev.step (f := fun _ => some false) (fun k => by simp only [table_shaped.j3]; rw [if_pos (by decide)]) (Ev.now _)
   | true =>
    simp only [Bool.true_and]; have h2 := sh_l2 l m l.length x4 x5 l.length s (m[s]) (hbm _ (List.getElem_mem hlm)) _ (by rw [w64n (by omega)]; exact h) _ 0 rfl (Nat.zero_le _)
    have h1 := sh_l1 l m l.length x4 x5 l.length s hlm (l[s]) (hbl _ (List.getElem_mem hlt)) _ h2 _ 0 rfl (Nat.zero_le _); refine Ev.step (fun k => ?_) h1
    simp only [table_shaped.j3]; rw [if_neg (by decide), if_pos (by omega), if_pos (by omega), rdL2_nat l s hlt]
    rfl
theorem sh_ev (l : List (List S93)) (m : List (List Int)) (hbl : ∀ x ∈ l, x.length ≤ 9223372036854775807) (hbm : ∀ x ∈ m, x.length ≤ 9223372036854775807) : Ev (fun k => table_shaped.f k l m) (shB l m) := by
 unfold shB; refine Ev.congr (f := fun k => table_shaped.j0 k (l.length : Int) (!decide (1 ≤ l.length ∧ l.length ≤ 2048 ∧ m.length = l.length)) l m) (fun k => ?_) ?_
 ·unfold table_shaped.f; by_cases h1 : (l.length : Int) = 0
  ·rw [if_pos h1, decide_eq_false (by omega)]; rfl
  ·rw [if_neg h1]; by_cases h2 : (l.length : Int) > 2048
   ·rw [if_pos h2, decide_eq_false (by omega)]; rfl
   ·rw [if_neg h2]
    congr 1
    by_cases h3 : m.length = l.length
    ·rw [decide_eq_true (by omega), h3]; simp
    ·rw [decide_eq_false (by omega)]; simp; omega
 ·by_cases hc : 1 ≤ l.length ∧ l.length ≤ 2048 ∧ m.length = l.length
  ·obtain ⟨h1, h2, h3⟩ := hc; rw [decide_eq_true (p := 1 ≤ l.length ∧ l.length ≤ 2048 ∧ m.length = l.length) ⟨h1, h2, h3⟩]; refine Ev.step (f := fun k => table_shaped.j1 k (l.length : Int) ((rd_L2 l 0).length : Int) ((rd_L3 m 0).length : Int) (!decide (1 ≤ (rd_L2 l 0).length ∧ (rd_L2 l 0).length ≤ 64 ∧ (rd_L3 m 0).length ≤ 128)) l m) (fun k => ?_) ?_
   ·simp only [table_shaped.j0]; rw [if_neg (by decide), if_pos (by omega), if_pos (by omega)]
    by_cases h4 : ((rd_L2 l 0).length : Int) = 0
    ·rw [if_pos h4, decide_eq_false (by omega)]; rfl
    ·rw [if_neg h4]; by_cases h5 : ((rd_L2 l 0).length : Int) > 64
     ·rw [if_pos h5, decide_eq_false (by omega)]; rfl
     ·rw [if_neg h5]
      congr 1
      by_cases h6 : (rd_L3 m 0).length ≤ 128
      ·rw [decide_eq_true (p := 1 ≤ (rd_L2 l 0).length ∧ (rd_L2 l 0).length ≤ 64 ∧ (rd_L3 m 0).length ≤ 128) (by omega), decide_eq_false (by omega)]; rfl
      ·rw [decide_eq_false (p := 1 ≤ (rd_L2 l 0).length ∧ (rd_L2 l 0).length ≤ 64 ∧ (rd_L3 m 0).length ≤ 128) (by omega), decide_eq_true (by omega)]; rfl
   ·by_cases h4 : 1 ≤ (rd_L2 l 0).length ∧ (rd_L2 l 0).length ≤ 64 ∧ (rd_L3 m 0).length ≤ 128
    ·rw [decide_eq_true h4, decide_eq_true (p := 1 ≤ l.length ∧ _) ⟨h1, h2, h3, h4⟩, Bool.true_and]; refine Ev.step (fun k => ?_) (sh_l0 l m h2 h3 hbl hbm _ _ _ 0 rfl (Nat.zero_le _))
     simp only [table_shaped.j1]; rw [if_neg (by decide)]; rfl
    ·rw [decide_eq_false h4, decide_eq_false (p := 1 ≤ l.length ∧ _) (fun h => h4 h.2.2.2)]
     exact Ev.step (f := fun _ => some false) (fun k => by simp only [table_shaped.j1]; rw [if_pos (by decide)]) (Ev.now _)
  ·rw [decide_eq_false hc, decide_eq_false (p := 1 ≤ l.length ∧ _) (fun h => hc ⟨h.1, h.2.1, h.2.2.1⟩)]
   exact Ev.step (f := fun _ => some false) (fun k => by simp only [table_shaped.j0]; rw [if_pos (by decide)]) (Ev.now _)
def cnt (n : Nat) : List Int := if h : 128 ≤ n then ((n % 128 + 128 : Nat) : Int) :: cnt (n / 128) else [(n : Int)]
termination_by n
decreasing_by omega
theorem or128 : ∀ b : Fin 256, Go.bits .or .u8 (b.val : Int) 128 = ((b.val % 128 + 128 : Nat) : Int) := by decide +kernel
theorem or128' (n : Nat) : Go.bits .or .u8 ((n : Int) % 256) 128 = ((n % 128 + 128 : Nat) : Int) := by
 have h := or128 ⟨n % 256, Nat.mod_lt _ (by decide)⟩
 simp only at h; rw [show ((n : Int) % 256) = ((n % 256 : Nat) : Int) by omega, h, Nat.mod_mod_of_dvd n (by decide : 128 ∣ 256)]
theorem cnt_len (n : Nat) : ∀ d, n < 128 ^ (d + 1) → (cnt n).length ≤ d + 1 := by
 intro d
 induction d generalizing n with
 | zero =>
  intro h; unfold cnt; rw [dif_neg (by omega)]
  simp
 | succ d ih =>
  intro h; unfold cnt
  split
  ·rw [List.length_cons]; have := ih (n / 128) (by rw [Nat.div_lt_iff_lt_mul (by decide)]; rw [Nat.pow_succ] at h; exact h)
   omega
  ·simp
theorem count_ev (N : Nat) : ∀ (n : Nat), n ≤ N → ∀ acc : List Int, acc.length + (cnt n).length < 140737488355328 → Ev (fun k => table_count.l0 k acc (n : Int)) (acc ++ cnt n) := by
 induction N with
 | zero =>
  intro n hn acc hl; unfold cnt at hl ⊢; rw [dif_neg (by omega)] at hl ⊢
  refine Ev.step (f := fun _ => some (acc ++ [(n : Int)])) (fun k => ?_) (Ev.now _)
  simp only [List.length_singleton] at hl; simp only [table_count.l0]; rw [if_neg (by omega), if_pos (by omega), Int.emod_eq_of_lt (by omega) (by omega)]
 | succ N ih =>
  intro n hn acc hl; by_cases h : 128 ≤ n
  ·unfold cnt at hl ⊢; rw [dif_pos h] at hl ⊢; simp only [List.length_cons] at hl; have h2 := ih (n / 128) (by omega) (acc ++ [((n % 128 + 128 : Nat) : Int)]) (by simp; omega)
   rw [List.append_assoc, List.singleton_append] at h2; refine Ev.step (fun k => ?_) h2
   simp only [table_count.l0]; rw [if_pos (by omega), if_pos (by omega), or128']
   rfl
  ·unfold cnt at hl ⊢; rw [dif_neg h] at hl ⊢; refine Ev.step (f := fun _ => some (acc ++ [(n : Int)])) (fun k => ?_) (Ev.now _)
   simp only [List.length_singleton] at hl; simp only [table_count.l0]; rw [if_neg (by omega), if_pos (by omega), Int.emod_eq_of_lt (by omega) (by omega)]
def aNum (a : S93) : Nat := if a.f0 = 0 then 0 else if a.f0 = 3 then 1 else if a.f0 = 1 then (2 * a.f1 + 2).toNat else (2 * a.f1 + 3).toNat
def aE (a : S93) : List Int := cnt (aNum a)
def gE (g : Int) : List Int := cnt (g + 1).toNat
def fitsP (a : S93) : Prop := (a.f0 = 0 ∨ a.f0 = 3) ∨ ((a.f0 = 1 ∨ a.f0 = 2) ∧ 0 ≤ a.f1 ∧ a.f1 < 2048)
def inP (g : Int) : Prop := -1 ≤ g ∧ g < 2048
def rowsA (l : List (List S93)) : List Int := l.flatMap fun r => r.flatMap aE
def rowsG (m : List (List Int)) : List Int := m.flatMap fun g => g.flatMap gE
theorem count_f {acc : List Int} {n : Nat} {x : Int} (hx : x = (n : Int)) (h : acc.length + (cnt n).length < 140737488355328) : Ev (fun k => table_count.f k acc x) (acc ++ cnt n) := by
 subst hx; exact count_ev n n (Nat.le_refl _) acc h
theorem enc_l4 (m : List (List Int)) (s : Nat) (g : List Int) (hg : g.length ≤ 9223372036854775807) (hin : ∀ x ∈ g, inP x) (rest : List Int)
  (hn : ∀ acc : List Int, (acc ++ rest).length < 140737488355328 → Ev (fun k => table_Encode.l3 k acc m (m.length : Int) (wrap64 ((s : Int) + 1))) (strOfNums (acc ++ rest))) :
  ∀ (d i : Nat), g.length - i = d → i ≤ g.length → ∀ acc : List Int, (acc ++ ((g.drop i).flatMap gE ++ rest)).length < 140737488355328 → Ev (fun k => table_Encode.l4 k acc m (m.length : Int) s g (g.length : Int) i) (strOfNums (acc ++ ((g.drop i).flatMap gE ++ rest))) := by
 intro d
 induction d with
 | zero =>
  intro i hd hi acc hl; rw [List.drop_eq_nil_of_le (by omega)] at hl ⊢
  exact Ev.step (fun k => by simp only [table_Encode.l4]; rw [if_neg (by omega)]) (hn acc hl)
 | succ d ih =>
  intro i hd hi acc hl; have hlt : i < g.length := by omega
  rw [List.drop_eq_getElem_cons hlt] at hl ⊢; rw [List.flatMap_cons, List.append_assoc, ← List.append_assoc] at hl ⊢; have hx := hin _ (List.getElem_mem hlt); have h := ih (i + 1) (by omega) (by omega) (acc ++ gE g[i]) hl
  refine Ev.step (fun k => ?_) (Ev.bind (f := fun k t => table_Encode.l4 k t m (m.length : Int) s g (g.length : Int) ((i + 1 : Nat) : Int)) (count_f (n := (g[i] + 1).toNat) (x := wrap64 (g[i] + 1)) (by unfold inP at hx; unfold wrap64; omega) (by simp only [List.length_append, gE] at hl; omega)) h)
  simp only [table_Encode.l4]; rw [if_pos (by omega), if_pos (by omega), if_pos (by omega), rd_nat g i hlt, w64n (by omega)]
theorem enc_l3 (m : List (List Int)) (hm : m.length ≤ 2048) (hbm : ∀ x ∈ m, x.length ≤ 9223372036854775807) (hin : ∀ x ∈ m, ∀ y ∈ x, inP y) : ∀ (d s : Nat), m.length - s = d → s ≤ m.length → ∀ acc : List Int, (acc ++ rowsG (m.drop s)).length < 140737488355328 →
  Ev (fun k => table_Encode.l3 k acc m (m.length : Int) s) (strOfNums (acc ++ rowsG (m.drop s))) := by
 intro d
 induction d with
 | zero =>
  intro s hd hs acc hl; rw [List.drop_eq_nil_of_le (by omega)] at hl ⊢
  refine Ev.step (f := fun _ => some (strOfNums (acc ++ rowsG []))) (fun k => ?_) (Ev.now _)
  simp only [table_Encode.l3]; rw [if_neg (by omega)]
  simp [rowsG]
 | succ d ih =>
  intro s hd hs acc hl; have hlt : s < m.length := by omega
  rw [List.drop_eq_getElem_cons hlt] at hl ⊢; unfold rowsG at hl ⊢; rw [List.flatMap_cons] at hl ⊢; refine Ev.step (fun k => ?_) (enc_l4 m s (m[s]) (hbm _ (List.getElem_mem hlt)) (hin _ (List.getElem_mem hlt)) (rowsG (m.drop (s + 1))) (fun acc' h' => by rw [w64n (by omega)]; exact ih (s + 1) (by omega) (by omega) acc' h') _ 0 rfl (Nat.zero_le _) acc hl)
  simp only [table_Encode.l3]; rw [if_pos (by omega), if_pos (by omega), if_pos (by omega), rdL3_nat m s hlt]
  rfl
theorem enc_l2 (l : List (List S93)) (m : List (List Int)) (s : Nat) (r : List S93) (hr : r.length ≤ 9223372036854775807) (hin : ∀ x ∈ r, fitsP x) (rest : List Int)
  (hn : ∀ acc : List Int, (acc ++ rest).length < 140737488355328 → Ev (fun k => table_Encode.l1 k acc l (l.length : Int) (wrap64 ((s : Int) + 1)) l m) (strOfNums (acc ++ rest))) :
  ∀ (d i : Nat), r.length - i = d → i ≤ r.length → ∀ acc : List Int, (acc ++ ((r.drop i).flatMap aE ++ rest)).length < 140737488355328 → Ev (fun k => table_Encode.l2 k acc l (l.length : Int) s r (r.length : Int) i l m) (strOfNums (acc ++ ((r.drop i).flatMap aE ++ rest))) := by
 intro d
 induction d with
 | zero =>
  intro i hd hi acc hl; rw [List.drop_eq_nil_of_le (by omega)] at hl ⊢
  exact Ev.step (fun k => by simp only [table_Encode.l2]; rw [if_neg (by omega)]) (hn acc hl)
 | succ d ih =>
  intro i hd hi acc hl; have hlt : i < r.length := by omega
  rw [List.drop_eq_getElem_cons hlt] at hl ⊢; rw [List.flatMap_cons, List.append_assoc, ← List.append_assoc] at hl ⊢; have hx := hin _ (List.getElem_mem hlt); have h := ih (i + 1) (by omega) (by omega) (acc ++ aE r[i]) hl
  have hc : acc.length + (cnt (aNum r[i])).length < 140737488355328 := by simp only [List.length_append, aE] at hl; omega
  have key : ∀ x : Int, x = ((aNum r[i] : Nat) : Int) → Ev (fun k => (table_count.f k acc x).bind fun t => table_Encode.l2 k t l (l.length : Int) s r (r.length : Int) ((i + 1 : Nat) : Int) l m) (strOfNums (acc ++ aE r[i] ++ ((r.drop (i + 1)).flatMap aE ++ rest))) := by
   intro x hx; exact Ev.bind (f := fun k t => table_Encode.l2 k t l (l.length : Int) s r (r.length : Int) ((i + 1 : Nat) : Int) l m) (count_f hx hc) h
  generalize hz : r[i] = z at *; unfold fitsP at hx; by_cases h0 : z.f0 = 0
  ·refine Ev.step (fun k => ?_) (key 0 (by simp [aNum, h0]))
   simp only [table_Encode.l2]; rw [if_pos (by omega), if_pos (by omega), if_pos (by omega), rdT_nat r i hlt, hz, if_pos h0, w64n (by omega)]
  ·by_cases h3 : z.f0 = 3
   ·refine Ev.step (fun k => ?_) (key 1 (by simp [aNum, h3]))
    simp only [table_Encode.l2]; rw [if_pos (by omega), if_pos (by omega), if_pos (by omega), rdT_nat r i hlt, hz, if_neg h0, if_pos h3, w64n (by omega)]
   ·by_cases h1 : z.f0 = 1
    ·refine Ev.step (fun k => ?_) (key (wrap64 ((wrap64 (2 * z.f1)) + 2)) (by unfold aNum; rw [if_neg h0, if_neg h3, if_pos h1]; unfold wrap64; omega))
     simp only [table_Encode.l2]; rw [if_pos (by omega), if_pos (by omega), if_pos (by omega), rdT_nat r i hlt, hz, if_neg h0, if_neg h3, if_pos h1, w64n (by omega)]
    ·refine Ev.step (fun k => ?_) (key (wrap64 ((wrap64 (2 * z.f1)) + 3)) (by unfold aNum; rw [if_neg h0, if_neg h3, if_neg h1]; unfold wrap64; omega))
     simp only [table_Encode.l2]; rw [if_pos (by omega), if_pos (by omega), if_pos (by omega), rdT_nat r i hlt, hz, if_neg h0, if_neg h3, if_neg h1, if_pos (by omega), w64n (by omega)]
theorem enc_l1 (l : List (List S93)) (m : List (List Int)) (hl0 : l.length ≤ 2048) (hm : m.length ≤ 2048) (hbl : ∀ x ∈ l, x.length ≤ 9223372036854775807) (hbm : ∀ x ∈ m, x.length ≤ 9223372036854775807) (hinl : ∀ x ∈ l, ∀ y ∈ x, fitsP y) (hin : ∀ x ∈ m, ∀ y ∈ x, inP y) :
  ∀ (d s : Nat), l.length - s = d → s ≤ l.length → ∀ acc : List Int, (acc ++ (rowsA (l.drop s) ++ rowsG m)).length < 140737488355328 →
  Ev (fun k => table_Encode.l1 k acc l (l.length : Int) s l m) (strOfNums (acc ++ (rowsA (l.drop s) ++ rowsG m))) := by
 intro d
 induction d with
 | zero =>
  intro s hd hs acc hl; rw [List.drop_eq_nil_of_le (by omega)] at hl ⊢
  refine Ev.step (fun k => ?_) (enc_l3 m hm hbm hin _ 0 rfl (Nat.zero_le _) acc hl)
  simp only [table_Encode.l1]; rw [if_neg (by omega)]
  rfl
 | succ d ih =>
  intro s hd hs acc hl; have hlt : s < l.length := by omega
  rw [List.drop_eq_getElem_cons hlt] at hl ⊢; unfold rowsA at hl ⊢; rw [List.flatMap_cons, List.append_assoc] at hl ⊢; refine Ev.step (fun k => ?_) (enc_l2 l m s (l[s]) (hbl _ (List.getElem_mem hlt)) (hinl _ (List.getElem_mem hlt)) (rowsA (l.drop (s + 1)) ++ rowsG m) (fun acc' h' => by rw [w64n (by omega)]; exact ih (s + 1) (by omega) (by omega) acc' h') _ 0 rfl (Nat.zero_le _) acc hl)
  simp only [table_Encode.l1]; rw [if_pos (by omega), if_pos (by omega), if_pos (by omega), rdL2_nat l s hlt]
  rfl
theorem fitsP_of {n : Int} {a : S93} (hn : n ≤ 2048) (h : fitsB n a = true) : fitsP a := by
 unfold fitsB at h; unfold fitsP
 split at h
 ·rename_i h1; exact .inl h1
 ·split at h
  ·rename_i h1
   split at h
   ·simp at h; exact .inr ⟨.inl h1, by omega, by omega⟩
   ·cases h
  ·split at h
   ·rename_i h1
    split at h
    ·simp at h; exact .inr ⟨.inr h1, by omega, by omega⟩
    ·cases h
   ·cases h
theorem inP_of {n g : Int} (hn : n ≤ 2048) (h : inrB n g = true) : inP g := by
 unfold inrB at h; unfold inP; simp at h; omega
theorem shRows_ok (n t y : Int) : ∀ (l : List (List S93)) (m : List (List Int)), l.length = m.length → shRows n t y l m = true → (∀ x ∈ l, (x.length : Int) = t ∧ x.all (fitsB n) = true) ∧ (∀ g ∈ m, (g.length : Int) = y ∧ g.all (inrB n) = true)
 | [], [], _, _ => ⟨fun x hx => (by cases hx), fun x hx => (by cases hx)⟩
 | [], g :: gs, h, _ => by simp at h
 | r :: rs, [], h, _ => by simp at h
 | r :: rs, g :: gs, hl, h => by
  simp only [shRows, Bool.and_eq_true, decide_eq_true_eq, Bool.not_eq_true', bne_eq_false_iff_eq] at h; obtain ⟨⟨h1, h2⟩, h3, h4, h5⟩ := h; obtain ⟨h6, h7⟩ := shRows_ok n t y rs gs (by simpa using hl) h5
  refine ⟨fun x hx => ?_, fun x hx => ?_⟩
  ·rcases List.mem_cons.1 hx with rfl | hx
   ·exact ⟨h1, h3⟩
   ·exact h6 x hx
  ·rcases List.mem_cons.1 hx with rfl | hx
   ·exact ⟨h2, h4⟩
   ·exact h7 x hx
theorem flat_len {α : Type} (f : α → List Int) (c : Nat) (l : List α) (h : ∀ x ∈ l, (f x).length ≤ c) : (l.flatMap f).length ≤ l.length * c := by
 induction l with
 | nil => simp
 | cons a r ih =>
  rw [List.flatMap_cons, List.length_append, List.length_cons, Nat.add_mul, Nat.one_mul]; have h1 := h a List.mem_cons_self; have h2 := ih (fun x hx => h x (List.mem_cons_of_mem _ hx))
  omega
theorem aE_len {a : S93} (h : fitsP a) : (aE a).length ≤ 3 := by
 refine cnt_len _ 2 ?_; unfold fitsP at h; unfold aNum
 split <;> (try split) <;> (try split) <;> omega
theorem gE_len {g : Int} (h : inP g) : (gE g).length ≤ 3 := by
 refine cnt_len _ 2 ?_; unfold inP at h; omega
def image (l : List (List S93)) (m : List (List Int)) : List Int := [84, 1] ++ cnt l.length ++ cnt (rd_L2 l 0).length ++ cnt (rd_L3 m 0).length ++ (rowsA l ++ rowsG m)
def encB (l : List (List S93)) (m : List (List Int)) : ByteArray := if shB l m = true then strOfNums (image l m) else ⟨#[]⟩
structure Shp (l : List (List S93)) (m : List (List Int)) : Prop where
 l1 : 1 ≤ l.length
 l2 : l.length ≤ 2048
 ml : m.length = l.length
 t2 : (rd_L2 l 0).length ≤ 64
 y2 : (rd_L3 m 0).length ≤ 128
 ra : ∀ x ∈ l, x.length ≤ 64
 rg : ∀ x ∈ m, x.length ≤ 128
 fa : ∀ x ∈ l, ∀ y ∈ x, fitsP y
 fg : ∀ x ∈ m, ∀ y ∈ x, inP y
theorem shp_of {l : List (List S93)} {m : List (List Int)} (h : shB l m = true) : Shp l m := by
 unfold shB at h; simp only [Bool.and_eq_true, decide_eq_true_eq] at h; obtain ⟨⟨h1, h2, h3, h4, h5, h6⟩, h7⟩ := h; obtain ⟨h8, h9⟩ := shRows_ok _ _ _ l m h3.symm h7; refine ⟨h1, h2, h3, h5, h6, fun x hx => ?_, fun x hx => ?_, fun x hx y hy => ?_, fun x hx y hy => ?_⟩
 ·have := (h8 x hx).1; omega
 ·have := (h9 x hx).1; omega
 ·exact fitsP_of (by omega) (List.all_eq_true.1 (h8 x hx).2 y hy)
 ·exact inP_of (by omega) (List.all_eq_true.1 (h9 x hx).2 y hy)
theorem rowsA_len {l : List (List S93)} {m : List (List Int)} (h : Shp l m) : (rowsA l).length ≤ 393216 := by
 have := flat_len (fun r => r.flatMap aE) 192 l (fun x hx => by
  have h1 := flat_len aE 3 x (fun y hy => aE_len (h.fa x hx y hy))
  have := h.ra x hx; omega)
 have h2 := Nat.mul_le_mul_right 192 h.l2; unfold rowsA; omega
theorem rowsG_len {l : List (List S93)} {m : List (List Int)} (h : Shp l m) : (rowsG m).length ≤ 786432 := by
 have := flat_len (fun r => r.flatMap gE) 384 m (fun x hx => by
  have h1 := flat_len gE 3 x (fun y hy => gE_len (h.fg x hx y hy))
  have := h.rg x hx; omega)
 have h2 := Nat.mul_le_mul_right 384 h.l2; rw [h.ml] at this; unfold rowsG; omega
theorem cnt3 {n : Nat} (h : n ≤ 2048) : (cnt n).length ≤ 3 := cnt_len n 2 (by omega)
theorem image_len {l : List (List S93)} {m : List (List Int)} (h : Shp l m) : (image l m).length < 2000000 := by
 have h1 := rowsA_len h; have h2 := rowsG_len h; have h3 := cnt3 h.l2; have h4 := cnt3 (n := (rd_L2 l 0).length) (by have := h.t2; omega)
 have h5 := cnt3 (n := (rd_L3 m 0).length) (by have := h.y2; omega)
 unfold image; simp only [List.length_append, List.length_cons, List.length_nil]; omega
theorem enc_ev (l : List (List S93)) (m : List (List Int)) (hbl : ∀ x ∈ l, x.length ≤ 9223372036854775807) (hbm : ∀ x ∈ m, x.length ≤ 9223372036854775807) : Ev (fun k => table_Encode.f k l m) (encB l m) := by
 unfold table_Encode.f encB; refine Ev.bind (f := fun k t => if t = true then (if 0 < (l.length : Int) then (if 0 < (m.length : Int) then ((some (([(l.length : Int), ((rd_L2 l 0).length : Int), ((rd_L3 m 0).length : Int)] : List Int) : List Int)).bind fun y234 => (table_Encode.l0 k (([84, 1] : List Int)) y234 (y234.length : Int) 0 l m)) else (none)) else (none)) else (some (⟨#[]⟩ : ByteArray))) (sh_ev l m hbl hbm) ?_
 cases hs : shB l m with
 | false => exact Ev.congr (f := fun _ => some (⟨#[]⟩ : ByteArray)) (fun k => by rw [if_neg (by decide)]) (Ev.now _)
 | true =>
  rw [if_pos rfl]; have h := shp_of hs; have hi := image_len h; have h3 := cnt3 h.l2; have h4 := cnt3 (n := (rd_L2 l 0).length) (by have := h.t2; omega)
  have h5 := cnt3 (n := (rd_L3 m 0).length) (by have := h.y2; omega)
  have hz := enc_l1 l m h.l2 (by rw [h.ml]; exact h.l2) hbl hbm h.fa h.fg _ 0 rfl (Nat.zero_le _) ([84, 1] ++ cnt l.length ++ cnt (rd_L2 l 0).length ++ cnt (rd_L3 m 0).length) (by rw [List.drop_zero]; exact Nat.lt_trans hi (by decide))
  rw [List.drop_zero] at hz; have hk : Ev (fun k => table_Encode.l0 k [84, 1] [(l.length : Int), ((rd_L2 l 0).length : Int), ((rd_L3 m 0).length : Int)] 3 ((0 : Nat) : Int) l m) (strOfNums (image l m)) := by
   refine Ev.step (fun k => ?_) (Ev.bind (f := fun k t => table_Encode.l0 k t [(l.length : Int), ((rd_L2 l 0).length : Int), ((rd_L3 m 0).length : Int)] 3 1 l m) (count_f (acc := [84, 1]) (n := l.length) rfl (by simp; omega)) ?_)
   ·simp only [table_Encode.l0]; rw [if_pos (by decide), if_pos (by decide), if_pos (by simp), show wrap64 (((0 : Nat) : Int) + 1) = 1 from by unfold wrap64; omega]; rfl
   refine Ev.step (fun k => ?_) (Ev.bind (f := fun k t => table_Encode.l0 k t [(l.length : Int), ((rd_L2 l 0).length : Int), ((rd_L3 m 0).length : Int)] 3 2 l m) (count_f (acc := [84, 1] ++ cnt l.length) (n := (rd_L2 l 0).length) rfl (by simp; omega)) ?_)
   ·simp only [table_Encode.l0]; rw [if_pos (by decide), if_pos (by decide), if_pos (by simp), show wrap64 ((1 : Int) + 1) = 2 from by unfold wrap64; omega]; rfl
   refine Ev.step (fun k => ?_) (Ev.bind (f := fun k t => table_Encode.l0 k t [(l.length : Int), ((rd_L2 l 0).length : Int), ((rd_L3 m 0).length : Int)] 3 3 l m) (count_f (acc := [84, 1] ++ cnt l.length ++ cnt (rd_L2 l 0).length) (n := (rd_L3 m 0).length) rfl (by simp; omega)) ?_)
   ·simp only [table_Encode.l0]; rw [if_pos (by decide), if_pos (by decide), if_pos (by simp), show wrap64 ((2 : Int) + 1) = 3 from by unfold wrap64; omega]; rfl
   refine Ev.step (fun k => ?_) hz
   simp only [table_Encode.l0]; rw [if_neg (by decide)]; rfl
  refine Ev.congr (fun k => ?_) hk
  rw [if_pos rfl, if_pos (by have := h.l1; omega), if_pos (by have := h.l1; have := h.ml; omega)]
  rfl
end Enc
end Go.Proofs.YtcijanmckhlpiaaDoor
namespace Go.Proofs.YtcijanmckhlpiaaDoor
open Go.RowKit Go.Proofs.YtcijanmckhlpiaaDoorW.PrintWords Go.Proofs.YtcijanmckhlpiaaDoorW.PrintLast Go.Proofs.YtcijanmckhlpiaaDoorW.PrintMore Go.Proofs.YtcijanmckhlpiaaDoor.PTableBack
namespace Dec
def Seg (s : ByteArray) (p : Nat) (l : List Int) : Prop := ∀ (i : Nat) (b : Int), l[i]? = some b → p + i < s.size ∧ bt s ((p + i : Nat) : Int) = b
theorem Seg.nil (s : ByteArray) (p : Nat) : Seg s p [] := fun i b h => by simp at h
theorem Seg.cons {s : ByteArray} {p : Nat} {b : Int} {l : List Int} : Seg s p (b :: l) ↔ (p < s.size ∧ bt s (p : Int) = b) ∧ Seg s (p + 1) l := by
 constructor
 ·intro h; refine ⟨?_, fun i c hc => ?_⟩
  ·have := h 0 b rfl
   simpa using this
  ·have := h (i + 1) c (by simpa using hc)
   rw [show p + (i + 1) = p + 1 + i by omega] at this
   exact this
 ·rintro ⟨⟨h1, h2⟩, h3⟩ i c hc; cases i with
  | zero =>
   have e : b = c := by simpa using hc
   subst e; exact ⟨by simpa using h1, by simpa using h2⟩
  | succ i =>
   have := h3 i c (by simpa using hc)
   rw [show p + 1 + i = p + (i + 1) by omega] at this
   exact this
theorem Seg.app {s : ByteArray} : ∀ {l1 l2 : List Int} {p : Nat}, Seg s p (l1 ++ l2) ↔ Seg s p l1 ∧ Seg s (p + l1.length) l2
 | [], l2, p => by
  rw [List.nil_append]; exact ⟨fun h => ⟨Seg.nil _ _, by simpa using h⟩, fun h => by simpa using h.2⟩
 | b :: l1, l2, p => by
  rw [List.cons_append, Seg.cons, Seg.cons, Seg.app (l1 := l1) (l2 := l2) (p := p + 1), List.length_cons, show p + (l1.length + 1) = p + 1 + l1.length by omega]
  constructor
  ·rintro ⟨a, b, c⟩; exact ⟨⟨a, b⟩, c⟩
  ·rintro ⟨⟨a, b⟩, c⟩; exact ⟨a, b, c⟩
theorem Seg.le {s : ByteArray} {p : Nat} {b : Int} {l : List Int} (h : Seg s p (b :: l)) : p + (b :: l).length ≤ s.size := by
 have hl : (b :: l)[l.length]? = some ((b :: l)[l.length]'(by simp)) := List.getElem?_eq_getElem _
 have := (h l.length _ hl).1; rw [List.length_cons]; omega
theorem ipow7 (k : Nat) : (2 : Int) ^ (7 * (k + 1)) = 128 * 2 ^ (7 * k) := by rw [show 7 * (k + 1) = 7 * k + 7 by omega, Int.pow_add]; omega
theorem ecnt_small {n : Nat} (h : n < 128) : Enc.cnt n = [(n : Int)] := by
 unfold Enc.cnt; rw [dif_neg (by omega)]
theorem ecnt_big {n : Nat} (h : 128 ≤ n) : Enc.cnt n = ((n % 128 + 128 : Nat) : Int) :: Enc.cnt (n / 128) := by
 rw [Enc.cnt]; rw [dif_pos h]
theorem cnt_seg (s : ByteArray) : ∀ (f k : Nat) (acc : Int) (p n : Nat), n < 128 ^ (f + 1) → (0 < k → 0 < n) → Seg s p (Enc.cnt n) → cnt s (f + 1) k acc p = some (acc + (n : Int) * 2 ^ (7 * k), p + (Enc.cnt n).length) := by
 intro f
 induction f with
 | zero =>
  intro k acc p n hn hk h; have hlt : n < 128 := by omega
  rw [ecnt_small hlt] at h ⊢; obtain ⟨⟨h1, h2⟩, -⟩ := Seg.cons.1 h; unfold cnt; rw [if_pos h1, h2, if_pos (by omega), if_neg (by rintro ⟨a, b⟩; have := hk b; omega), Int.emod_eq_of_lt (by omega) (by omega)]
  rfl
 | succ f ih =>
  intro k acc p n hn hk h; by_cases hlt : n < 128
  ·rw [ecnt_small hlt] at h ⊢; obtain ⟨⟨h1, h2⟩, -⟩ := Seg.cons.1 h; unfold cnt; rw [if_pos h1, h2, if_pos (by omega), if_neg (by rintro ⟨a, b⟩; have := hk b; omega), Int.emod_eq_of_lt (by omega) (by omega)]
   rfl
  ·rw [ecnt_big (by omega)] at h ⊢
   obtain ⟨⟨h1, h2⟩, h3⟩ := Seg.cons.1 h; have hd : n / 128 < 128 ^ (f + 1) := by rw [Nat.div_lt_iff_lt_mul (by decide)]; rw [Nat.pow_succ] at hn; exact hn
   have e := ih (k + 1) (acc + bt s (p : Int) % 128 * 2 ^ (7 * k)) (p + 1) (n / 128) hd (fun _ => by omega) h3
   rw [cnt, if_pos h1, if_neg (by rw [h2]; omega), e, h2, ipow7, List.length_cons]
   have a1 : ((n % 128 + 128 : Nat) : Int) % 128 = ((n % 128 : Nat) : Int) := by omega
   have a2 : (n : Int) = ((n % 128 : Nat) : Int) + ((n / 128 : Nat) : Int) * 128 := by omega
   rw [a1]; have a3 : acc + ((n % 128 : Nat) : Int) * 2 ^ (7 * k) + ((n / 128 : Nat) : Int) * (128 * 2 ^ (7 * k)) = acc + (n : Int) * 2 ^ (7 * k) := by
    rw [a2, Int.add_mul, ← Int.mul_assoc, Int.add_assoc]
   rw [a3]
   congr 2
   try omega
theorem num_seg {s : ByteArray} {p n : Nat} (hn : n < 128 ^ 9) (h : Seg s p (Enc.cnt n)) : num s p = some ((n : Int), p + (Enc.cnt n).length) := by
 unfold num; rw [cnt_seg s 8 0 0 p n hn (fun h => absurd h (by decide)) h]
 simp
theorem within_seg {s : ByteArray} {lo hi : Int} {p n : Nat} (h : Seg s p (Enc.cnt n)) (h1 : lo ≤ n) (h2 : (n : Int) ≤ hi) (hh : hi ≤ 1000000) : within s lo hi p = some ((n : Int), p + (Enc.cnt n).length) := by
 unfold within; rw [num_seg (Nat.lt_of_lt_of_le (show n < 1000001 by omega) (by decide)) h]
 simp only [Option.bind_some]; rw [if_pos ⟨h1, h2⟩]
theorem fit_eq (st : Int) (a : S93) : fitS a st = Enc.fitsB st a := by
 unfold fitS Enc.fitsB; by_cases h0 : a.f0 = 0 ∨ a.f0 = 3
 ·rw [if_pos h0, if_pos h0]
 ·rw [if_neg h0, if_neg h0]; by_cases h1 : a.f0 = 1
  ·rw [if_pos h1, if_pos h1]; by_cases h : a.f1 ≥ 0
   ·rw [if_pos h]; simp [h]
   ·rw [if_neg h]; simp; omega
  ·rw [if_neg h1, if_neg h1]; by_cases h2 : a.f0 = 2
   ·rw [if_pos h2, if_pos h2]; by_cases h : a.f1 ≥ 0
    ·rw [if_pos h]; simp [h]
    ·rw [if_neg h]; simp; omega
   ·rw [if_neg h2, if_neg h2]
theorem actOf_aNum {st : Int} {a : S93} (h : Enc.fitsB st a = true) (hst : st ≤ 2048) : actOf ((Enc.aNum a : Nat) : Int) = a ∧ Enc.aNum a ≤ 4608 := by
 obtain ⟨x, y⟩ := a; unfold Enc.fitsB at h; simp only at h; by_cases h0 : x = 0 ∨ x = 3
 ·rw [if_pos h0] at h; have hy : y = 0 := by simpa using h
  subst hy; rcases h0 with rfl | rfl <;> exact ⟨rfl, by decide⟩
 ·rw [if_neg h0] at h; by_cases h1 : x = 1
  ·subst h1; rw [if_pos rfl] at h
   split at h
   ·rename_i hy
    have hy2 : y < st := by simpa using h
    obtain ⟨n, rfl⟩ := Int.eq_ofNat_of_zero_le hy; have e : Enc.aNum ⟨1, (n : Int)⟩ = 2 * n + 2 := by unfold Enc.aNum; simp; omega
    rw [e]; refine ⟨?_, by omega⟩
    unfold actOf; rw [if_neg (by omega), if_neg (by omega), if_pos (by omega)]
    congr 1
    omega
   ·cases h
  ·rw [if_neg h1] at h; by_cases h2 : x = 2
   ·subst h2; rw [if_pos rfl] at h
    split at h
    ·rename_i hy
     have hy2 : y < 256 := by simpa using h
     obtain ⟨n, rfl⟩ := Int.eq_ofNat_of_zero_le hy; have e : Enc.aNum ⟨2, (n : Int)⟩ = 2 * n + 3 := by unfold Enc.aNum; simp; omega
     rw [e]; refine ⟨?_, by omega⟩
     unfold actOf; rw [if_neg (by omega), if_neg (by omega), if_neg (by omega), show (((2 * n + 3 : Nat) : Int) - 3) / 2 = (n : Int) by omega]
    ·cases h
   ·rw [if_neg h2] at h; cases h
theorem actR_seg {s : ByteArray} {st : Int} {p : Nat} {a : S93} (hst : st ≤ 2048) (hf : Enc.fitsB st a = true) (h : Seg s p (Enc.aE a)) : actR s st p = .ok (a, p + (Enc.aE a).length) := by
 obtain ⟨h1, h2⟩ := actOf_aNum hf hst; unfold actR actS; rw [within_seg h (Int.natCast_nonneg _) (by omega) (by omega)]
 simp only [Option.bind_some]; rw [h1, fit_eq, if_pos hf]; rfl
theorem goR_seg {s : ByteArray} {st : Int} {p : Nat} {g : Int} (hst : st ≤ 2048) (hf : Enc.inrB st g = true) (h : Seg s p (Enc.gE g)) : goR s st p = .ok (g, p + (Enc.gE g).length) := by
 unfold Enc.inrB at hf; simp at hf; unfold goR; rw [within_seg (n := (g + 1).toNat) h (Int.natCast_nonneg _) (by omega) (by omega)]
 simp only
 congr 2
 omega
theorem many_seg {α : Type} {s : ByteArray} {rd : Nat → Except Nat (α × Nat)} {f : α → List Int} : ∀ {l : List α} {p : Nat}, (∀ x ∈ l, ∀ p, Seg s p (f x) → rd p = .ok (x, p + (f x).length)) → Seg s p (l.flatMap f) → many rd l.length p = .ok (l, p + (l.flatMap f).length)
 | [], p, _, _ => rfl
 | x :: l, p, hr, h => by
  rw [List.flatMap_cons] at h ⊢; obtain ⟨h1, h2⟩ := Seg.app.1 h; rw [List.length_cons]; simp only [many]; rw [hr x (by simp) p h1]
  simp only; rw [many_seg (fun y hy => hr y (by simp [hy])) h2]
  simp only; rw [List.length_append]
  congr 2
  omega
theorem many_seg' {α : Type} {s : ByteArray} {rd : Nat → Except Nat (α × Nat)} {f : α → List Int} {l : List α} {m p : Nat} (hm : l.length = m) (hr : ∀ x ∈ l, ∀ p, Seg s p (f x) → rd p = .ok (x, p + (f x).length)) (h : Seg s p (l.flatMap f)) : many rd m p = .ok (l, p + (l.flatMap f).length) := by
 subst hm; exact many_seg hr h
theorem dec_image {l : List (List S93)} {m : List (List Int)} (h : Enc.shB l m = true) {s : ByteArray} (hs : Seg s 0 (Enc.image l m)) (hz : s.size = (Enc.image l m).length) : decS s = .ok (l, m) := by
 unfold Enc.shB at h; simp only [Bool.and_eq_true, decide_eq_true_eq] at h; obtain ⟨⟨h1, h2, h3, h4, h5, h6⟩, h7⟩ := h; obtain ⟨h8, h9⟩ := Enc.shRows_ok _ _ _ l m h3.symm h7; generalize hT : (rd_L2 l 0).length = T at *; generalize hY : (rd_L3 m 0).length = Y at *; unfold Enc.image at hs hz; rw [hT, hY] at hs hz; obtain ⟨hs, hr⟩ := Seg.app.1 hs; obtain ⟨hs, hy⟩ := Seg.app.1 hs; obtain ⟨hs, ht⟩ := Seg.app.1 hs; obtain ⟨hs, hl⟩ := Seg.app.1 hs; obtain ⟨hra, hrg⟩ := Seg.app.1 hr; obtain ⟨⟨b0, b1⟩, hs1⟩ := Seg.cons.1 hs; obtain ⟨⟨c0, c1⟩, -⟩ := Seg.cons.1 hs1; have e2 : (0 + ([84, 1] : List Int).length) = 2 := rfl; rw [e2] at hl; unfold decS; rw [if_neg (by intro hh; exact hh ⟨b0, by simpa using b1⟩), if_neg (by intro hh; exact hh ⟨c0, by simpa using c1⟩)]
 unfold tabS; rw [within_seg hl (by omega) (by omega) (by omega)]
 simp only; have ht' : Seg s (2 + (Enc.cnt l.length).length) (Enc.cnt T) := by
  have := ht; rw [List.length_append] at this
  simpa [Nat.add_assoc] using this
 rw [within_seg ht' (by omega) (by omega) (by omega)]
 simp only; have hy' : Seg s (2 + (Enc.cnt l.length).length + (Enc.cnt T).length) (Enc.cnt Y) := by
  have := hy; rw [List.length_append, List.length_append] at this
  simpa [Nat.add_assoc] using this
 rw [within_seg hy' (by omega) (by omega) (by omega)]
 simp only; unfold bodS; rw [Int.toNat_natCast, Int.toNat_natCast, Int.toNat_natCast]; have hra' : Seg s (2 + (Enc.cnt l.length).length + (Enc.cnt T).length + (Enc.cnt Y).length) (l.flatMap fun r => r.flatMap Enc.aE) := by
  have := hra; rw [List.length_append, List.length_append, List.length_append] at this
  simpa [Nat.add_assoc, Enc.rowsA] using this
 have hrg' : Seg s (2 + (Enc.cnt l.length).length + (Enc.cnt T).length + (Enc.cnt Y).length + (l.flatMap fun r => r.flatMap Enc.aE).length) (m.flatMap fun r => r.flatMap Enc.gE) := by
  have := hrg; rw [List.length_append, List.length_append, List.length_append] at this
  simpa [Nat.add_assoc, Enc.rowsA, Enc.rowsG] using this
 rw [many_seg' rfl (fun x hx p hp => many_seg' (by have := (h8 x hx).1; omega) (fun a ha p hp => actR_seg (by omega) (List.all_eq_true.1 (h8 x hx).2 a ha) hp) hp) hra']
 simp only; rw [many_seg' h3 (fun x hx p hp => many_seg' (by have := (h9 x hx).1; omega) (fun a ha p hp => goR_seg (by omega) (List.all_eq_true.1 (h9 x hx).2 a ha) hp) hp) hrg']
 simp only; rw [if_neg]; rw [hz]; simp only [List.length_append, Enc.rowsA, Enc.rowsG, List.length_cons, List.length_nil]; omega
structure Pre (s t : ByteArray) : Prop where
 le : s.size ≤ t.size
 eq : ∀ p : Nat, p < s.size → bt s (p : Int) = bt t (p : Int)
theorem Pre.cnt {s t : ByteArray} (h : Pre s t) : ∀ (f k : Nat) (acc : Int) (p : Nat) (r : Int × Nat), cnt s f k acc p = some r → Dec.cnt t f k acc p = some r := by
 intro f
 induction f with
 | zero => intro k acc p r e; simp [Dec.cnt] at e
 | succ f ih =>
  intro k acc p r e; unfold Dec.cnt at e ⊢; by_cases hp : p < s.size
  ·rw [if_pos hp] at e; rw [if_pos (Nat.lt_of_lt_of_le hp h.le), ← h.eq p hp]
   split at e
   ·rename_i hb
    rw [if_pos hb]
    split at e
    ·cases e
    ·rename_i hz
     rw [if_neg hz]; exact e
   ·rename_i hb
    rw [if_neg hb]; exact ih _ _ _ _ e
  ·rw [if_neg hp] at e; cases e
theorem Pre.within {s t : ByteArray} (h : Pre s t) {lo hi : Int} {p : Nat} {r : Int × Nat} (e : within s lo hi p = some r) : Dec.within t lo hi p = some r := by
 unfold Dec.within at e ⊢; rcases hn : num s p with _ | x
 ·rw [hn] at e; cases e
 ·have := h.cnt 9 0 0 p x hn; rw [hn] at e; unfold num; rw [this]; exact e
theorem Pre.actR {s t : ByteArray} (h : Pre s t) {st : Int} {p : Nat} {r : S93 × Nat} (e : actR s st p = .ok r) : Dec.actR t st p = .ok r := by
 unfold Dec.actR actS at e ⊢; rcases hw : Dec.within s 0 4608 p with _ | x
 ·rw [hw] at e; cases e
 ·rw [h.within hw]; rw [hw] at e; exact e
theorem Pre.goR {s t : ByteArray} (h : Pre s t) {st : Int} {p : Nat} {r : Int × Nat} (e : goR s st p = .ok r) : Dec.goR t st p = .ok r := by
 unfold Dec.goR at e ⊢; rcases hw : Dec.within s 0 st p with _ | x
 ·rw [hw] at e; cases e
 ·rw [h.within hw]; rw [hw] at e; exact e
theorem nums_seg {l : List Int} (h : ∀ b ∈ l, 0 ≤ b ∧ b < 256) : Seg (strOfNums l) 0 l ∧ (strOfNums l).size = l.length := by
 have hsz : (strOfNums l).size = l.length := by simp [strOfNums, ByteArray.size]
 refine ⟨fun i b hb => ?_, hsz⟩
 obtain ⟨hi, he⟩ := List.getElem?_eq_some_iff.1 hb; have hr := h b (List.mem_of_getElem? hb); refine ⟨by omega, ?_⟩
 rw [Nat.zero_add]; unfold bt; rw [Int.toNat_natCast, dif_pos (by omega)]
 have e : (strOfNums l)[i]'(by omega) = UInt8.ofNat b.toNat := by
  show (l.map fun n => UInt8.ofNat n.toNat).toArray[i]'(by simpa using hi) = _
  simp [he]
 rw [e]; simp; omega
theorem ecnt_bytes : ∀ (N n : Nat), n ≤ N → ∀ b ∈ Enc.cnt n, 0 ≤ b ∧ b < 256 := by
 intro N
 induction N with
 | zero =>
  intro n hn b hb; rw [ecnt_small (by omega)] at hb
  rw [List.mem_singleton.1 hb]; omega
 | succ N ih =>
  intro n hn b hb; by_cases h : n < 128
  ·rw [ecnt_small h] at hb; rw [List.mem_singleton.1 hb]; omega
  ·rw [ecnt_big (by omega)] at hb
   rcases List.mem_cons.1 hb with rfl | hb
   ·omega
   ·exact ih (n / 128) (by omega) b hb
theorem image_bytes (l : List (List S93)) (m : List (List Int)) : ∀ b ∈ Enc.image l m, 0 ≤ b ∧ b < 256 := by
 intro b hb; have key : ∀ n, b ∈ Enc.cnt n → 0 ≤ b ∧ b < 256 := fun n h => ecnt_bytes n n (Nat.le_refl _) b h
 unfold Enc.image Enc.rowsA Enc.rowsG at hb; simp only [List.mem_append, List.mem_cons, List.not_mem_nil, or_false, List.mem_flatMap] at hb; rcases hb with ((((rfl | rfl) | h) | h) | h) | (⟨x, _, y, _, h⟩ | ⟨x, _, y, _, h⟩)
 ·omega
 ·omega
 ·exact key _ h
 ·exact key _ h
 ·exact key _ h
 ·exact key _ h
 ·exact key _ h
theorem dec_enc {l : List (List S93)} {m : List (List Int)} (h : Enc.shB l m = true) : decS (Enc.encB l m) = .ok (l, m) := by
 unfold Enc.encB; rw [if_pos h]; obtain ⟨h1, h2⟩ := nums_seg (image_bytes l m); exact dec_image h h1 h2
end Dec
end Go.Proofs.YtcijanmckhlpiaaDoor
namespace Go.Proofs.YtcijanmckhlpiaaDoor
open Go.RowKit Go.Proofs.YtcijanmckhlpiaaDoorW.PrintWords Go.Proofs.YtcijanmckhlpiaaDoorW.PrintLast Go.Proofs.YtcijanmckhlpiaaDoorW.PrintMore Go.Proofs.YtcijanmckhlpiaaDoor.PTableBack
namespace Dec
open Bld (hdr kH kInt)
abbrev kI : Kd Int := Kd.int .i64
def tru (_ : Nat) : Prop := True
def plainT (t : Nat) : Prop := t ≠ 93 ∧ t ≠ 90 ∧ t ≠ 3 ∧ t ≠ 95
theorem plain25 : plainT 25 := by unfold plainT; decide
theorem E93 : k93.E = [] := rfl
def RowsOwn {α : Type} (k : Kd α) (t o : Nat) (W : World) (base : Nat) (vl v : Value) (rows : List (List α)) : Prop := ∃ hs : List Bld.HD, kH.R o W base Bld.tru v hs ∧ Bld.Rows k t W base (hs.map hdr) rows ∧ ∀ (j : Nat) (u : Value) (q : Nat), (hs.map hdr)[j]? = some u → u.ownBlock = some q → vl.ownBlock ≠ some q
section
variable {α : Type} {k : Kd α} {t o : Nat} {W W1 : World} {base : Nat} {vl v v1 : Value} {rows : List (List α)}
theorem RowsOwn.drop (h : RowsOwn k t o W base vl v rows) : RowsOwn k t o W base (.slice none 0 0) v rows := by
 obtain ⟨hs, h1, h2, h3⟩ := h; exact ⟨hs, h1, h2, fun _ _ _ _ _ e => by cases e⟩
theorem RowsOwn.nil : RowsOwn k t o W base vl (.slice none 0 0) [] := ⟨[], Kd.R_nil _ _ _ _ _, Bld.Rows.empty, fun j u q hu => by simp at hu⟩
theorem RowsOwn.slice (h : RowsOwn k t o W base vl v rows) : ∃ A c, v = .slice A rows.length c := by
 obtain ⟨hs, h1, h2, h3⟩ := h; obtain ⟨A, c, e, -, -⟩ := Kd.zbe h1; have hl := h2.len; rw [List.length_map] at hl; exact ⟨A, c, by rw [e, hl]⟩
theorem RowsOwn.keep (h : RowsOwn k t o W base vl v rows) {g rt : Nat} {rc : Array Value} (hr : W.heap[g]? = some (.cells rc rt (0, 0))) (h1 : t ≠ rt) (h2 : o ≠ rt) (hk : zbn W W1 g none) : RowsOwn k t o W1 base vl v rows := by
 obtain ⟨hs, a, b, c⟩ := h; refine ⟨hs, Kd.zbg (Kd.R_keep (Kd.R_types a hr (fun q hq => by rw [Bld.EH] at hq; rw [List.mem_singleton.1 hq]; exact h2)) hk (fun _ hk => hk.2)) (fun _ hk => hk.1), b.move (fun j u q hu hq hlt => hk.2 q hlt (b.ne hr h1 hu hq) (by simp)), c⟩
theorem RowsOwn.app (h : RowsOwn k t o W base vl v rows) {e : Nat} (he : o ≠ e) (ht : ∀ k, vl.ownBlock = some k → ∃ cells, W.heap[k]? = some (.cells cells e (0, 0))) (hg : W.grownBy W1 vl.ownBlock) (hat : v1.ownBlock = vl.ownBlock ∨ ∃ b, v1.ownBlock = some b ∧ W.heap.size ≤ b) : RowsOwn k t o W1 base v1 v rows := by
 obtain ⟨hs, a, b, c⟩ := h; refine ⟨hs, Kd.R_over' a ht (fun q hq => by rw [Bld.EH] at hq; rw [List.mem_singleton.1 hq]; exact he) hg, b.grown hg (fun j u q hu hq e2 => c j u q hu hq e2.symm), fun j u q hu hq e2 => ?_⟩
 rcases hat with hat | ⟨b', hb, hle⟩
 ·exact c j u q hu hq (hat ▸ e2)
 ·have := b.lt hu hq; rw [hb] at e2; cases e2; omega
theorem RowsOwn.over {β : Type} {d : Kd β} {e b' : Nat} {ok : Nat → Prop} {u : Value} {ys : List β} (h : RowsOwn k t o W base vl v rows) (hu : d.R e W b' ok u ys) (h1 : t ≠ e) (h2 : o ≠ e) (hg : W.grownBy W1 u.ownBlock) : RowsOwn k t o W1 base (.slice none 0 0) v rows := by
 obtain ⟨hs, a, b, c⟩ := h; exact ⟨hs, Kd.R_over a hu (fun q hq => by rw [Bld.EH] at hq; rw [List.mem_singleton.1 hq]; exact h2) hg, b.over hu h1 hg, fun _ _ _ _ _ e => by cases e⟩
theorem RowsOwn.set (h : RowsOwn k t o W base vl v rows) {g t' : Nat} {cs : Array Value} (hb : W.heap[g]? = some (.cells cs t' (0, 0))) (h1 : t ≠ t') (h2 : o ≠ t') (j : Nat) (u : Value) : RowsOwn k t o (W.setCell ⟨g, j, none⟩ u) base vl v rows := by
 obtain ⟨hs, a, b, c⟩ := h; exact ⟨hs, Kd.R_set a hb (fun q hq => by rw [Bld.EH] at hq; rw [List.mem_singleton.1 hq]; exact h2) j u, b.set hb h1 j u, c⟩
end
structure St (w0 W : World) (g : Nat) (rc : Array Value) (rt : Nat) (bT : Nat) (tc : Array Value) (fix : List (Nat × Array Value × Nat)) (vl vA vG : Value) (rows : List (List S93)) (gos : List (List Int)) : Prop where
 below : Below w0.heap.size w0 W
 rd : W.heap[g]? = some (.cells rc rt (0, 0))
 rtp : plainT rt
 tb : W.heap[bT]? = some (.cells tc 25 (0, 0))
 ge : w0.heap.size ≤ g ∧ w0.heap.size ≤ bT ∧ bT ≠ g
 fixed : ∀ f ∈ fix, W.heap[f.1]? = some (.cells f.2.1 f.2.2 (0, 0)) ∧ plainT f.2.2 ∧ f.1 ≠ g ∧ f.1 ≠ bT
 rA : RowsOwn k93 93 90 W w0.heap.size vl vA rows
 rG : RowsOwn kI 3 95 W w0.heap.size vl vG gos
variable {w0 W W1 : World} {g rt bT : Nat} {rc tc : Array Value} {fix : List (Nat × Array Value × Nat)} {vl vA vG : Value} {rows : List (List S93)} {gos : List (List Int)}
theorem St.drop (h : St w0 W g rc rt bT tc fix vl vA vG rows gos) : St w0 W g rc rt bT tc fix (.slice none 0 0) vA vG rows gos :=
 ⟨h.below, h.rd, h.rtp, h.tb, h.ge, h.fixed, h.rA.drop, h.rG.drop⟩
theorem St.call (h : St w0 W g rc rt bT tc fix vl vA vG rows gos) {rc' : Array Value} (hk : zbn W W1 g none) (hr : W1.heap[g]? = some (.cells rc' rt (0, 0))) (hb : Below w0.heap.size w0 W1) : St w0 W1 g rc' rt bT tc fix vl vA vG rows gos where
 below := hb
 rd := hr
 rtp := h.rtp
 tb := hk.blk h.tb h.ge.2.2 (by simp)
 ge := h.ge
 fixed := fun f hf => ⟨hk.blk (h.fixed f hf).1 (h.fixed f hf).2.2.1 (by simp), (h.fixed f hf).2⟩
 rA := h.rA.keep h.rd (Ne.symm h.rtp.1) (Ne.symm h.rtp.2.1) hk
 rG := h.rG.keep h.rd (Ne.symm h.rtp.2.2.1) (Ne.symm h.rtp.2.2.2) hk
theorem St.bel (h : St w0 W g rc rt bT tc fix vl vA vG rows gos) (hb : Below W.heap.size W W1) : St w0 W1 g rc rt bT tc fix vl vA vG rows gos :=
 h.call (zbn.of_below hb g none) (zal h.rd hb) (zam h.below hb)
theorem St.alloc (h : St w0 W g rc rt bT tc fix vl vA vG rows gos) (o : Obj) : St w0 (W.alloc o) g rc rt bT tc fix vl vA vG rows gos := h.bel (zab (Below.refl _ _) o)
theorem St.drewN (h : St w0 W g rc rt bT tc fix vl vA vG rows gos) (m : Nat) : St w0 (W.drewN m) g rc rt bT tc fix vl vA vG rows gos := h.bel (zaa (Below.refl _ _) m)
theorem St.app (h : St w0 W g rc rt bT tc fix vl vA vG rows gos) {e : Nat} {v1 : Value} (he : e = 93 ∨ e = 3) (ht : ∀ k, vl.ownBlock = some k → ∃ cells, W.heap[k]? = some (.cells cells e (0, 0)))
  (hg : W.grownBy W1 vl.ownBlock) (hat : v1.ownBlock = vl.ownBlock ∨ ∃ b, v1.ownBlock = some b ∧ W.heap.size ≤ b) (hb : Below w0.heap.size w0 W1) : St w0 W1 g rc rt bT tc fix v1 vA vG rows gos := by
 have ne : ∀ {k t : Nat} {cs : Array Value}, W.heap[k]? = some (.cells cs t (0, 0)) → plainT t → some k ≠ vl.ownBlock := by
  intro k t cs hk hp e2; obtain ⟨cells, hc⟩ := ht k e2.symm; rw [hc] at hk; injection hk with hk; injection hk with _ hk; subst hk; rcases he with rfl | rfl
  ·exact hp.1 rfl
  ·exact hp.2.2.1 rfl
 exact ⟨hb, zas h.rd hg (ne h.rd h.rtp), h.rtp, zas h.tb hg (ne h.tb plain25), h.ge, fun f hf => ⟨zas (h.fixed f hf).1 hg (ne (h.fixed f hf).1 (h.fixed f hf).2.1), (h.fixed f hf).2⟩,
  h.rA.app (by rcases he with rfl | rfl <;> decide) ht hg hat, h.rG.app (by rcases he with rfl | rfl <;> decide) ht hg hat⟩
theorem St.appA (h : St w0 W g rc rt bT tc fix vl vA vG rows gos) {v1 : Value} {hs : List Bld.HD} {A : Option Addr} {n c : Nat} {row : List S93} {ok : Nat → Prop} (hv : vl = .slice A n c) (hR : k93.R 93 W w0.heap.size ok vl row) (h1 : kH.R 90 W w0.heap.size Bld.tru vA hs) (h2 : Bld.Rows k93 93 W w0.heap.size (hs.map hdr) rows) (h3 : ∀ (j : Nat) (u : Value) (q : Nat), (hs.map hdr)[j]? = some u → u.ownBlock = some q → vl.ownBlock ≠ some q)
  (ho : kH.R 90 W1 w0.heap.size Bld.tru v1 (hs ++ [(A, n, c)])) (hg : W.grownBy W1 vA.ownBlock) (hb : Below w0.heap.size w0 W1) : St w0 W1 g rc rt bT tc fix (.slice none 0 0) v1 vG (rows ++ [row]) gos where
 below := hb
 rd := zas h.rd hg (Kd.R_ne h1 h.rd (fun e => h.rtp.2.1 e.symm))
 rtp := h.rtp
 tb := zas h.tb hg (Kd.R_ne h1 h.tb (by decide))
 ge := h.ge
 fixed := fun f hf => ⟨zas (h.fixed f hf).1 hg (Kd.R_ne h1 (h.fixed f hf).1 (fun e => (h.fixed f hf).2.1.2.1 e.symm)), (h.fixed f hf).2⟩
 rA := ⟨hs ++ [(A, n, c)], ho, by
  have := (h2.snoc E93 hR h3).over h1 (by decide) hg
  rw [List.map_append]; subst hv; exact this, fun _ _ _ _ _ e => by cases e⟩
 rG := h.rG.over h1 (by decide) (by decide) hg
theorem St.appG (h : St w0 W g rc rt bT tc fix vl vA vG rows gos) {v1 : Value} {hs : List Bld.HD} {A : Option Addr} {n c : Nat} {row : List Int} {ok : Nat → Prop} (hv : vl = .slice A n c) (hR : kI.R 3 W w0.heap.size ok vl row) (h1 : kH.R 95 W w0.heap.size Bld.tru vG hs) (h2 : Bld.Rows kI 3 W w0.heap.size (hs.map hdr) gos) (h3 : ∀ (j : Nat) (u : Value) (q : Nat), (hs.map hdr)[j]? = some u → u.ownBlock = some q → vl.ownBlock ≠ some q)
  (ho : kH.R 95 W1 w0.heap.size Bld.tru v1 (hs ++ [(A, n, c)])) (hg : W.grownBy W1 vG.ownBlock) (hb : Below w0.heap.size w0 W1) : St w0 W1 g rc rt bT tc fix (.slice none 0 0) vA v1 rows (gos ++ [row]) where
 below := hb
 rd := zas h.rd hg (Kd.R_ne h1 h.rd (fun e => h.rtp.2.2.2 e.symm))
 rtp := h.rtp
 tb := zas h.tb hg (Kd.R_ne h1 h.tb (by decide))
 ge := h.ge
 fixed := fun f hf => ⟨zas (h.fixed f hf).1 hg (Kd.R_ne h1 (h.fixed f hf).1 (fun e => (h.fixed f hf).2.1.2.2.2 e.symm)), (h.fixed f hf).2⟩
 rA := h.rA.over h1 (by decide) (by decide) hg
 rG := ⟨hs ++ [(A, n, c)], ho, by
  have := (h2.snoc Bld.EInt hR h3).over h1 (by decide) hg
  rw [List.map_append]; subst hv; exact this, fun _ _ _ _ _ e => by cases e⟩
theorem St.setT (h : St w0 W g rc rt bT tc fix vl vA vG rows gos) (j : Nat) (u : Value) {tc' : Array Value} (e : tc.setIfInBounds j u = tc') : St w0 (W.setCell ⟨bT, j, none⟩ u) g rc rt bT tc' fix vl vA vG rows gos where
 below := zae h.below h.ge.2.1
 rd := zaq h.rd (fun e => h.ge.2.2 e.symm) u
 rtp := h.rtp
 tb := zar h.tb j u e
 ge := h.ge
 fixed := fun f hf => ⟨zaq (h.fixed f hf).1 (h.fixed f hf).2.2.2 u, (h.fixed f hf).2⟩
 rA := h.rA.set h.tb (by decide) (by decide) j u
 rG := h.rG.set h.tb (by decide) (by decide) j u
end Dec
end Go.Proofs.YtcijanmckhlpiaaDoor
namespace Go.Proofs.YtcijanmckhlpiaaDoor
open Go.RowKit Go.Proofs.YtcijanmckhlpiaaDoorW.PrintWords Go.Proofs.YtcijanmckhlpiaaDoorW.PrintLast Go.Proofs.YtcijanmckhlpiaaDoorW.PrintMore Go.Proofs.YtcijanmckhlpiaaDoor.PTableBack
namespace Dec
theorem info93 : (Tryd.prog.info? 93).map (fun i => (i.zero, i.size, i.bytes)) = some (some (.agg #[.int .i64 0, .int .i64 0]), 2, 16) := by kernel_rfl
theorem info90 : (Tryd.prog.info? 90).map (fun i => (i.zero, i.size, i.bytes)) = some (some (.slice none 0 0), 1, 24) := by kernel_rfl
theorem info95 : (Tryd.prog.info? 95).map (fun i => (i.zero, i.size, i.bytes)) = some (some (.slice none 0 0), 1, 24) := by kernel_rfl
theorem info3 : (Tryd.prog.info? 3).map (fun i => (i.zero, i.size, i.bytes)) = some (some (.int .i64 0), 1, 8) := by kernel_rfl
theorem C_one93 {W : World} {b : Nat} {p q : Int} (h : W.heap[b]? = some (Obj.cells #[.int .i64 p, .int .i64 q] 93 (0, 0))) : k93.C W (some ⟨b, 0, none⟩) 1 [⟨p, q⟩] := by
 refine ⟨rfl, by decide, fun _ => ⟨⟨b, 0, none⟩, rfl, fun j x hj => ?_⟩⟩
 match j with
 | 0 =>
  simp at hj; subst hj; refine ⟨[.int .i64 p, .int .i64 q], rfl, k93_mk _ _, fun k u hu => ?_⟩
  rw [add_plain]; refine (zac h _).trans ?_
  match k with
  | 0 => exact hu
  | 1 => exact hu
  | k + 2 => simp at hu
 | j + 1 => simp at hj
theorem C_one3 {W : World} {b : Nat} {p : Int} (h : W.heap[b]? = some (Obj.cells #[.int .i64 p] 3 (0, 0))) : kI.C W (some ⟨b, 0, none⟩) 1 [p] := by
 refine ⟨rfl, by decide, fun _ => ⟨⟨b, 0, none⟩, rfl, fun j x hj => ?_⟩⟩
 match j with
 | 0 =>
  simp at hj; subst hj; refine ⟨[.int .i64 p], rfl, rfl, fun k u hu => ?_⟩
  rw [add_plain]; refine (zac h _).trans ?_
  match k with
  | 0 => exact hu
  | k + 1 => simp at hu
 | j + 1 => simp at hj
theorem typed_of {α : Type} {d : Kd α} {e b : Nat} {ok : Nat → Prop} {W : World} {v : Value} {xs : List α} (h : d.R e W b ok v xs) : ∀ k, v.ownBlock = some k → ∃ cells, W.heap[k]? = some (.cells cells e (0, 0)) := by
 obtain ⟨inner, ho⟩ := Kd.R_own h; exact fun k hk => own_typed ho k hk
theorem k93_E : ∀ t : Nat, t ≠ 93 → ∀ q, q ∈ 93 :: k93.E → q ≠ t := by
 intro t ht q hq; have : q = 93 := by simpa [k93, Kd.iso, Kd.pair, Kd.int, Kd.scalar] using hq
 subst this; exact fun e => ht e.symm
theorem kI_E : ∀ t : Nat, t ≠ 3 → ∀ q, q ∈ 3 :: kI.E → q ≠ t := by
 intro t ht q hq; have : q = 3 := by simpa [kI, Kd.int, Kd.scalar] using hq
 subst this; exact fun e => ht e.symm
abbrev fixT (N : Nat) (n0 n1 n2 : Nat) : List (Nat × Array Value × Nat) := [(N, #[.slice none 0 0, .slice none 0 0], 25), (N + 1, #[.int .i64 (n0 : Int), .int .i64 (n1 : Int), .int .i64 (n2 : Int)], 131)]
abbrev rdC (s : ByteArray) (q : Nat) : Array Value := #[.string s, .int .i64 (q : Int)]
abbrev sizes6 : Value := .agg #[.int .i64 1, .int .i64 2048, .int .i64 1, .int .i64 64, .int .i64 0, .int .i64 128]
theorem ixs0 (W : World) : (Instr.index 132 sizes6 (.int .i64 0)).run Tryd.prog W = .ok (.agg #[.int .i64 1, .int .i64 2048]) W := by kernel_rfl
theorem ixs1 (W : World) : (Instr.index 132 sizes6 (.int .i64 1)).run Tryd.prog W = .ok (.agg #[.int .i64 1, .int .i64 64]) W := by kernel_rfl
theorem ixs2 (W : World) : (Instr.index 132 sizes6 (.int .i64 2)).run Tryd.prog W = .ok (.agg #[.int .i64 0, .int .i64 128]) W := by kernel_rfl
theorem plain131 : plainT 131 := by unfold plainT; decide
theorem IsBad.alloc {w W : World} {p : Nat} {ev : Value} (h : IsBad w W p ev) (o : Obj) : IsBad w (W.alloc o) p ev := by
 obtain ⟨b, h1, h2, h3⟩ := h; exact ⟨b, h1, h2, zad h3 o⟩
abbrev nilS : Value := .slice none 0 0
def TabE (o : Except Nat (List (List S93) × List (List Int))) (w0 w w' : World) (e : Ending) : Prop := match o with
 | .error p => ∃ ev, e = .returned (.tuple #[.agg #[nilS, nilS], ev]) ∧ IsBad w w' p ev
 | .ok r => ∃ vA vG, e = .returned (.tuple #[.agg #[vA, vG], .nilIface]) ∧ RowsOwn k93 93 90 w' w0.heap.size nilS vA r.1 ∧ RowsOwn kI 3 95 w' w0.heap.size nilS vG r.2
set_option maxRecDepth 100000 in
set_option maxHeartbeats 4000000 in
theorem table_any (s : ByteArray) (g p : Nat) (w0 w : World) (hI : IsR w0 w g s p) (hB : Below w0.heap.size w0 w) (hs : s.size ≤ 140737488351232) (hp : p ≤ s.size) :
  Calls Tryd.prog 29 #[.pointer (some ⟨g, 0, none⟩)] w fun e w' => Below w0.heap.size w0 w' ∧ TabE (tabS s p) w0 w w' e := by
 have HR : Hid (Rel w0 w w g s p) := ⟨hI, hB, zbn.refl _ _ _⟩; have hgl : g < w.heap.size := zau hI.1; have hwl : w0.heap.size ≤ w.heap.size := hB.size; have hgw : w0.heap.size ≤ g := hI.2; clear hI hB
 go_enter Tryd.func29, Tryd.ntmps29
 go_wp2_with fail
 have HR1 := Lib.hid ((HR.out.alloc (.cells #[nilS, nilS] 25)).alloc (.cells #[.int .i64 0, .int .i64 0, .int .i64 0] 131)); have HX := Lib.hid (zad (zav w (.cells #[nilS, nilS] 25)) (.cells #[.int .i64 0, .int .i64 0, .int .i64 0] 131)); have hY := zav (w.alloc (.cells #[nilS, nilS] 25)) (.cells #[.int .i64 0, .int .i64 0, .int .i64 0] 131); rw [World.size_alloc] at hY; have HY := Lib.hid hY; have HD0 : Hid (HD s p 0 0 0 0 p) := Lib.hid ⟨rfl, rfl, rfl, rfl⟩; clear HR hY
 go_loopw [20] (fun v w' => ∃ (i q : Nat) (x0 x1 x2 : Int), v = .int .i64 (i : Int) ∧ i ≤ 3 ∧ q ≤ s.size ∧ Hid (Rel w0 w w' g s q) ∧ Hid (w'.heap[w.heap.size]? = some (.cells #[nilS, nilS] 25 (0, 0))) ∧ Hid (w'.heap[w.heap.size + 1]? = some (.cells #[.int .i64 x0, .int .i64 x1, .int .i64 x2] 131 (0, 0))) ∧ Hid (HD s p i x0 x1 x2 q)) (fun v _ => 3 - (intOf v).toNat)
 case atStart => exact ⟨0, p, 0, 0, 0, rfl, by omega, hp, HR1, HX, HY, HD0⟩
 case round =>
  clear HR1 HX HY HD0; obtain ⟨i, q, x0, x1, x2, rfl, hi, hq, HR, HX, HY, HH⟩ := hrel; have hsz : w.heap.size + 1 < wr.heap.size := zau HY.out
  match i, hi with
  | 0, _ =>
   have hix := ixs0 wr; have HRa := Lib.hid (HR.out.alloc (.cells #[.int .i64 1, .int .i64 2048] 106)); have HXa := Lib.hid (zad HX.out (.cells #[.int .i64 1, .int .i64 2048] 106)); have HYa := Lib.hid (zad HY.out (.cells #[.int .i64 1, .int .i64 2048] 106))
   go_wp2_with fail
   refine (within_any s g q 1 2048 w0 _ HRa.out.is HRa.out.below hs hq).mono ?_; rintro e w1 ⟨q1, hq1, hR, hW⟩; have HR1 := Lib.hid (HRa.out.trans hR); have HX1 := Lib.hid (hR.keep.blk HXa.out (by omega) (by simp))
   have HY1 := Lib.hid (hR.keep.blk HYa.out (by omega) (by simp))
   have hsz1 := hR.size; rw [World.size_alloc] at hsz1; clear hR HR HX HY HRa HXa HYa hix; have hx0 := zac HX1.out 0; have hx1 := zac HX1.out 1; have hx2 := zak HX1.out 0; have hx3 := zak HX1.out 1; have hy0 := zac HY1.out 0; have hy1 := zac HY1.out 1; have hy2 := zac HY1.out 2; have hf0 := zak HY1.out 0; have hf1 := zak HY1.out 1; have hf2 := zak HY1.out 2; simp at hx0 hx1 hy0 hy1 hy2; rcases hw : within s 1 2048 q with _ | ⟨n, qn⟩
   ·rw [hw] at hW; obtain ⟨ev, rfl, hbad⟩ := hW; have HT := Lib.hid (HD.bad0 HH.out hw); have HBad := Lib.hid ((hbad.far (k := w.heap.size) (j := 0) (by rw [World.size_alloc]; omega) nilS).far (k := w.heap.size) (j := 1) (by rw [World.size_alloc]; omega) nilS)
    obtain ⟨b, hb1, rfl, hb2⟩ := hbad; clear hb1 hb2 hw HH
    go_wp2_with fail
    refine bodyPost_ret (zbm rfl _ _ w.heap.size 25 #[nilS, nilS] (0, 0) _ rfl (zar (cs' := #[nilS, nilS]) (zar (cs' := #[nilS, nilS]) HX1.out 0 _ rfl) 1 _ rfl) Tryd.underlying25 rfl (by kernel_rfl)) rfl ?_
    exact ⟨((HR1.out.far hwl hgl (Nat.le_refl _) _).far hwl hgl (Nat.le_refl _) _).below, by rw [HT.out]; exact ⟨_, rfl, HBad.out.before (by rw [World.size_alloc]; omega)⟩⟩
   ·rw [hw] at hW; have hwb := within_bound hw; obtain ⟨rfl, rfl⟩ := hW; have HH2 : Hid (HD s p 1 n x1 x2 q1) := Lib.hid (by
     have h := HH.out; obtain ⟨rfl, rfl, rfl, rfl⟩ := h; exact ⟨hw, rfl, rfl⟩)
    clear hw HH
    go_wp2_with fail
    go_roundw
    case rel => exact ⟨1, q1, n, x1, x2, rfl, by omega, hq1, HR1.out.far hwl hgl (by omega) _, zaq HX1.out (by show w.heap.size ≠ w.heap.size + 1; omega) _, zar HY1.out 0 _ rfl, HH2⟩
    case measure => simp [intOf]
  | 1, _ =>
   have hix := ixs1 wr; have HRa := Lib.hid (HR.out.alloc (.cells #[.int .i64 1, .int .i64 64] 106)); have HXa := Lib.hid (zad HX.out (.cells #[.int .i64 1, .int .i64 64] 106)); have HYa := Lib.hid (zad HY.out (.cells #[.int .i64 1, .int .i64 64] 106))
   go_wp2_with fail
   refine (within_any s g q 1 64 w0 _ HRa.out.is HRa.out.below hs hq).mono ?_; rintro e w1 ⟨q1, hq1, hR, hW⟩; have HR1 := Lib.hid (HRa.out.trans hR); have HX1 := Lib.hid (hR.keep.blk HXa.out (by omega) (by simp))
   have HY1 := Lib.hid (hR.keep.blk HYa.out (by omega) (by simp))
   have hsz1 := hR.size; rw [World.size_alloc] at hsz1; clear hR HR HX HY HRa HXa HYa hix; have hx0 := zac HX1.out 0; have hx1 := zac HX1.out 1; have hx2 := zak HX1.out 0; have hx3 := zak HX1.out 1; have hy0 := zac HY1.out 0; have hy1 := zac HY1.out 1; have hy2 := zac HY1.out 2; have hf0 := zak HY1.out 0; have hf1 := zak HY1.out 1; have hf2 := zak HY1.out 2; simp at hx0 hx1 hy0 hy1 hy2; rcases hw : within s 1 64 q with _ | ⟨n, qn⟩
   ·rw [hw] at hW; obtain ⟨ev, rfl, hbad⟩ := hW; have HT := Lib.hid (HD.bad1 HH.out hw); have HBad := Lib.hid ((hbad.far (k := w.heap.size) (j := 0) (by rw [World.size_alloc]; omega) nilS).far (k := w.heap.size) (j := 1) (by rw [World.size_alloc]; omega) nilS)
    obtain ⟨b, hb1, rfl, hb2⟩ := hbad; clear hb1 hb2 hw HH
    go_wp2_with fail
    refine bodyPost_ret (zbm rfl _ _ w.heap.size 25 #[nilS, nilS] (0, 0) _ rfl (zar (cs' := #[nilS, nilS]) (zar (cs' := #[nilS, nilS]) HX1.out 0 _ rfl) 1 _ rfl) Tryd.underlying25 rfl (by kernel_rfl)) rfl ?_
    exact ⟨((HR1.out.far hwl hgl (Nat.le_refl _) _).far hwl hgl (Nat.le_refl _) _).below, by rw [HT.out]; exact ⟨_, rfl, HBad.out.before (by rw [World.size_alloc]; omega)⟩⟩
   ·rw [hw] at hW; have hwb := within_bound hw; obtain ⟨rfl, rfl⟩ := hW; have HH2 : Hid (HD s p 2 x0 n x2 q1) := Lib.hid (by
     have h := HH.out; obtain ⟨h1, rfl, rfl⟩ := h; exact ⟨q, h1, hw, rfl⟩)
    clear hw HH
    go_wp2_with fail
    go_roundw
    case rel => exact ⟨2, q1, x0, n, x2, rfl, by omega, hq1, HR1.out.far hwl hgl (by omega) _, zaq HX1.out (by show w.heap.size ≠ w.heap.size + 1; omega) _, zar HY1.out 1 _ rfl, HH2⟩
    case measure => simp [intOf]
  | 2, _ =>
   have hix := ixs2 wr; have HRa := Lib.hid (HR.out.alloc (.cells #[.int .i64 0, .int .i64 128] 106)); have HXa := Lib.hid (zad HX.out (.cells #[.int .i64 0, .int .i64 128] 106)); have HYa := Lib.hid (zad HY.out (.cells #[.int .i64 0, .int .i64 128] 106))
   go_wp2_with fail
   refine (within_any s g q 0 128 w0 _ HRa.out.is HRa.out.below hs hq).mono ?_; rintro e w1 ⟨q1, hq1, hR, hW⟩; have HR1 := Lib.hid (HRa.out.trans hR); have HX1 := Lib.hid (hR.keep.blk HXa.out (by omega) (by simp))
   have HY1 := Lib.hid (hR.keep.blk HYa.out (by omega) (by simp))
   have hsz1 := hR.size; rw [World.size_alloc] at hsz1; clear hR HR HX HY HRa HXa HYa hix; have hx0 := zac HX1.out 0; have hx1 := zac HX1.out 1; have hx2 := zak HX1.out 0; have hx3 := zak HX1.out 1; have hy0 := zac HY1.out 0; have hy1 := zac HY1.out 1; have hy2 := zac HY1.out 2; have hf0 := zak HY1.out 0; have hf1 := zak HY1.out 1; have hf2 := zak HY1.out 2; simp at hx0 hx1 hy0 hy1 hy2; rcases hw : within s 0 128 q with _ | ⟨n, qn⟩
   ·rw [hw] at hW; obtain ⟨ev, rfl, hbad⟩ := hW; have HT := Lib.hid (HD.bad2 HH.out hw); have HBad := Lib.hid ((hbad.far (k := w.heap.size) (j := 0) (by rw [World.size_alloc]; omega) nilS).far (k := w.heap.size) (j := 1) (by rw [World.size_alloc]; omega) nilS)
    obtain ⟨b, hb1, rfl, hb2⟩ := hbad; clear hb1 hb2 hw HH
    go_wp2_with fail
    refine bodyPost_ret (zbm rfl _ _ w.heap.size 25 #[nilS, nilS] (0, 0) _ rfl (zar (cs' := #[nilS, nilS]) (zar (cs' := #[nilS, nilS]) HX1.out 0 _ rfl) 1 _ rfl) Tryd.underlying25 rfl (by kernel_rfl)) rfl ?_
    exact ⟨((HR1.out.far hwl hgl (Nat.le_refl _) _).far hwl hgl (Nat.le_refl _) _).below, by rw [HT.out]; exact ⟨_, rfl, HBad.out.before (by rw [World.size_alloc]; omega)⟩⟩
   ·rw [hw] at hW; have hwb := within_bound hw; obtain ⟨rfl, rfl⟩ := hW; have HH2 : Hid (HD s p 3 x0 x1 n q1) := Lib.hid (by
     have h := HH.out; obtain ⟨q2, h1, h2, rfl⟩ := h; exact ⟨q2, q, h1, h2, hw⟩)
    clear hw HH
    go_wp2_with fail
    go_roundw
    case rel => exact ⟨3, q1, x0, x1, n, rfl, by omega, hq1, HR1.out.far hwl hgl (by omega) _, zaq HX1.out (by show w.heap.size ≠ w.heap.size + 1; omega) _, zar HY1.out 2 _ rfl, HH2⟩
    case measure => simp [intOf]
  | 3, _ =>
   rw [show ((3 : Nat) : Int) = 3 from rfl]; obtain ⟨hT, b0, b1, b2, b3, b4, b5⟩ := HH.out.all; obtain ⟨n0, rfl⟩ := Int.eq_ofNat_of_zero_le (show 0 ≤ x0 by omega)
   obtain ⟨n1, rfl⟩ := Int.eq_ofNat_of_zero_le (show 0 ≤ x1 by omega)
   obtain ⟨n2, rfl⟩ := Int.eq_ofNat_of_zero_le (show 0 ≤ x2 by omega)
   have HT := Lib.hid hT; clear hT HH; have hy0 := zac HY.out 0; simp at hy0; have HS : Hid (St w0 (wr.alloc (.cells #[nilS, nilS] 25)) g (rdC s q) 83 wr.heap.size #[nilS, nilS] (fixT w.heap.size n0 n1 n2) nilS nilS nilS [] []) := Lib.hid {
    below := (HR.out.alloc _).below
    rd := (HR.out.alloc _).is.1
    rtp := by unfold plainT; decide
    tb := zav _ _
    ge := ⟨hgw, by omega, by have := zau HR.out.is.1; omega⟩
    fixed := by
     intro f hf; simp only [fixT, List.mem_cons, List.not_mem_nil, or_false] at hf; rcases hf with rfl | rfl
     ·exact ⟨zad HX.out _, plain25, by show w.heap.size ≠ g; omega, by show w.heap.size ≠ wr.heap.size; omega⟩
     ·exact ⟨zad HY.out _, plain131, by show w.heap.size + 1 ≠ g; omega, by show w.heap.size + 1 ≠ wr.heap.size; omega⟩
    rA := RowsOwn.nil
    rG := RowsOwn.nil }
   have hbT : w.heap.size + 1 < wr.heap.size := hsz
   go_wp2_with fail
   clear hy0 HX HY HR hsz; generalize hW3 : wr.alloc (.cells #[nilS, nilS] 25) = w3 at *; generalize hbT2 : wr.heap.size = bT at *; clear hW3 hbT2
   go_loopw [43] (fun v w' => ∃ (j q' : Nat) (vA : Value) (rows : List (List S93)), v = .int .i64 (j : Int) ∧ j ≤ n0 ∧ q' ≤ s.size ∧ Hid (rows.length = j) ∧ Hid (St w0 w' g (rdC s q') 83 bT #[vA, nilS] (fixT w.heap.size n0 n1 n2) nilS vA nilS rows []) ∧ Hid (cat rows (many (many (actR s n0) n1) (n0 - j) q') = many (many (actR s n0) n1) n0 q)) (fun v _ => n0 - (intOf v).toNat)
   case atStart => exact ⟨0, q, nilS, [], rfl, Nat.zero_le _, hq, Lib.hid rfl, HS, Lib.hid (by rw [Nat.sub_zero, cat_nil])⟩
   case round =>
    clear HS; obtain ⟨j, qA, vA, rows, rfl, hj, hqA, hrl, HS, HC⟩ := hrel; by_cases hjn : j < n0
    ·have hjb : decide ((j : Int) < (n0 : Int)) = true := decide_eq_true (by omega)
     have hjw : IntKind.i64.wrap ((j : Int) + 1) = (j : Int) + 1 := IntWalk.i64_in _ (by omega)
     have hy1 := zac (HS.out.fixed _ (List.mem_cons_of_mem _ List.mem_cons_self)).1 1; simp at hy1
     go_wp2_with fail
     clear hy1; have HRl : Hid (k93.R 93 wr w0.heap.size tru nilS []) := Kd.R_nil _ _ _ _ _
     go_loopw [47, 10] (fun v vl w' => ∃ (k q2 : Nat) (row : List S93), v = .int .i64 (k : Int) ∧ k ≤ n1 ∧ q2 ≤ s.size ∧ Hid (row.length = k) ∧ Hid (St w0 w' g (rdC s q2) 83 bT #[vA, nilS] (fixT w.heap.size n0 n1 n2) vl vA nilS rows []) ∧ Hid (k93.R 93 w' w0.heap.size tru vl row) ∧ Hid (cat row (many (actR s n0) (n1 - k) q2) = many (actR s n0) n1 qA)) (fun v _ _ => n1 - (intOf v).toNat)
     case atStart => exact ⟨0, qA, [], rfl, Nat.zero_le _, hqA, Lib.hid rfl, HS, HRl, Lib.hid (by rw [Nat.sub_zero, cat_nil])⟩
     case round =>
      clear HS HRl; obtain ⟨k, q2, row, rfl, hk, hq2, hkl, HS, HRl, HCr⟩ := hrel; by_cases hkn : k < n1
      ·have hkb : decide ((k : Int) < (n1 : Int)) = true := decide_eq_true (by omega)
       have hkw : IntKind.i64.wrap ((k : Int) + 1) = (k : Int) + 1 := IntWalk.i64_in _ (by omega)
       have hy0 := zac (HS.out.fixed _ (List.mem_cons_of_mem _ List.mem_cons_self)).1 0; simp at hy0
       go_wp2_with fail
       refine (action_any s g q2 (n0 : Int) w0 _ ⟨HS.out.rd, hgw⟩ HS.out.below hs hq2 (by omega)).mono ?_
       rintro e w4 ⟨q3, hq3, hR, hA⟩; have HS4 := Lib.hid (HS.out.call hR.keep hR.is.1 hR.below); have HRl4 : Hid (k93.R 93 w4 w0.heap.size tru u10 row) := Lib.hid (Kd.zbg (Kd.R_keep (Kd.R_types HRl.out HS.out.rd (k93_E 83 (by decide))) hR.keep (fun _ hk => hk.2)) (fun _ hk => hk.1))
       have hNl : w.heap.size < wr.heap.size := zau (HS.out.fixed _ List.mem_cons_self).1; clear hR HS HRl hy0; rcases ha : actS s n0 q2 with _ | ⟨a, qa⟩
       ·rw [ha] at hA; obtain ⟨ev, rfl, hbad⟩ := hA; have HX := Lib.hid (HS4.out.fixed _ List.mem_cons_self).1; have hx0 := zac HX.out 0; have hx1 := zac HX.out 1; have hx2 := zak HX.out 0; have hx3 := zak HX.out 1; simp at hx0 hx1; have hbo : tabS s p = .error q2 := by
         have e1 : actR s n0 q2 = .error q2 := by unfold actR; rw [ha]
         have e2 := HCr.out; obtain ⟨m1, hm1⟩ : ∃ m, n1 - k = m + 1 := ⟨n1 - k - 1, by omega⟩
         rw [hm1, cat_bad row e1] at e2; have e3 := HC.out; obtain ⟨m2, hm2⟩ : ∃ m, n0 - j = m + 1 := ⟨n0 - j - 1, by omega⟩
         rw [hm2, cat_bad rows e2.symm] at e3; rw [HT.out]; unfold bodS; simp only [Int.toNat_natCast]; rw [← e3]
        have HT2 := Lib.hid hbo; have HBad := Lib.hid ((hbad.far (k := w.heap.size) (j := 0) hNl nilS).far (k := w.heap.size) (j := 1) hNl nilS); have HB4 := Lib.hid HS4.out.below; have hN4 : w.heap.size < w4.heap.size := zau HX.out; obtain ⟨b, hb1, rfl, hb2⟩ := hbad; clear hbo hb1 hb2 ha HC HCr
        go_wp2_with fail
        refine bodyPost_ret (zbm rfl _ _ w.heap.size 25 #[nilS, nilS] (0, 0) _ rfl (zad (zar (cs' := #[nilS, nilS]) (zar (cs' := #[nilS, nilS]) HX.out 0 _ rfl) 1 _ rfl) _) Tryd.underlying25 rfl (by kernel_rfl)) rfl ?_
        exact ⟨zab (zae (zae HB4.out hwl) hwl) _, by rw [HT2.out]; exact ⟨_, rfl, (HBad.out.alloc _).before (by omega)⟩⟩
       ·rw [ha] at hA; obtain ⟨rfl, rfl⟩ := hA; have e2 := HCr.out; obtain ⟨m1, hm1⟩ : ∃ m, n1 - k = m + 1 := ⟨n1 - k - 1, by omega⟩
        rw [hm1, cat_more row (x := a) (q' := q3) (by unfold actR; rw [ha]), show m1 = n1 - (k + 1) by omega] at e2
        have HCr2 := Lib.hid e2; have HSa := Lib.hid ((HS4.out.alloc (.cells #[.int .i64 a.f0, .int .i64 a.f1] 93)).alloc (.cells #[.int .i64 a.f0, .int .i64 a.f1] 93)); have HRa := Lib.hid (Kd.zba (Kd.zba HRl4.out (.cells #[.int .i64 a.f0, .int .i64 a.f1] 93)) (.cells #[.int .i64 a.f0, .int .i64 a.f1] 93)); have hLa := zav (w4.alloc (.cells #[.int .i64 a.f0, .int .i64 a.f1] 93)) (.cells #[.int .i64 a.f0, .int .i64 a.f1] 93); rw [World.size_alloc] at hLa; have HLa := Lib.hid hLa; have hbo : (row.length + 1) * 16 ≤ 140737488355328 := by have := hkl.out; omega
        clear ha e2 HCr HS4 HRl4 hm1 hLa
        go_wp2_with ((with_reducible refine zax (b := .append) (xs := #[.tmp 60, .tmp 62]) rfl ?_); at_builtin; refine Kd.zbh k93 (w0 := w0) w0.heap.size rfl (.tmp 60) (.tmp 62) 90 93 (.agg #[.int .i64 0, .int .i64 0]) 16 rfl Tryd.underlying90 info93 rfl (by decide) (by omega) _ row [a] (some ⟨w4.heap.size + 1, 0, none⟩) 1 1 tru (fun _ => False) rfl rfl HRa.out (C_one93 HLa.out) (fun _ _ h => h) (fun _ h => h.elim) (fun _ _ => trivial) HSa.out.below HSa.out.below.size hbo ?_; intro v1 w5 ho5 hb5 hg5 hat5)
        have HS5 := Lib.hid (HSa.out.app (.inl rfl) (typed_of HRa.out) hg5 hat5 hb5); have HR5 := Lib.hid ho5; clear ho5 hb5 hg5 hat5 HSa HRa HLa
        go_wp2_with fail
        go_roundw
        case rel => exact ⟨k + 1, q3, row ++ [a], by rw [Int.natCast_add]; rfl, by omega, hq3, Lib.hid (by rw [List.length_append, hkl.out]; rfl), HS5, HR5, HCr2⟩
        case measure => simp only [intOf]; omega
      ·obtain rfl : k = n1 := by omega
       obtain ⟨Al, cl, rfl⟩ := Kd.R_slice HRl.out; obtain ⟨AA, cA, eA⟩ := HS.out.rA.slice; subst eA; have e2 := HCr.out; rw [Nat.sub_self, cat_done] at e2; have e3 := HC.out; obtain ⟨m2, hm2⟩ : ∃ m, n0 - j = m + 1 := ⟨n0 - j - 1, by omega⟩
       rw [hm2, cat_more rows e2.symm, show m2 = n0 - (j + 1) by omega] at e3
       have HC3 := Lib.hid e3; have hta := zac HS.out.tb 0; have htf := zak HS.out.tb 0; simp at hta; obtain ⟨hs0, hA1, hA2, hA3⟩ := HS.out.rA; have hl0 := hA2.len; rw [List.length_map] at hl0; have hbo0 : (hs0.length + 1) * 24 ≤ 140737488355328 := by rw [hl0]; have := hrl.out; omega
       have HL0 := Lib.hid hl0; have HA0 := Lib.hid hA1; have HA9 := Lib.hid (And.intro hA2 hA3); clear hl0 hA1 hA2 hA3; have hbo : (rows.length + 1) * 24 ≤ 140737488355328 := by have := hrl.out; omega
       have hkb : decide ((k : Int) < (k : Int)) = false := decide_eq_false (by omega)
       clear e2 e3 HC HCr hm2
       go_wp2_with ((with_reducible refine zax (b := .append) (xs := #[.tmp 66, .tmp 68]) rfl ?_); at_builtin; refine Kd.R_append Bld.kH (w0 := w0) (W := wr) w0.heap.size rfl (.tmp 66) (.tmp 68) 22 90 (.slice none 0 0) 24 rfl Tryd.underlying22 info90 rfl (by decide) (by omega) (.slice AA rows.length cA) hs0 (Al, row.length, cl) [.slice Al row.length cl] Bld.tru (fun _ => False) rfl rfl rfl (fun _ hk => hk.elim) (fun _ _ => trivial) HA0.out HS.out.below HS.out.below.size hbo0 ?_; intro v1 w5 ho5 hb5 hg5 hat5; obtain ⟨A5, c5, e5⟩ := Kd.R_slice ho5; rw [List.length_append, List.length_singleton, HL0.out] at e5; subst e5; have HS5 := Lib.hid (HS.out.appA rfl HRl.out HA0.out HA9.out.1 HA9.out.2 ho5 hg5 hb5); have q5 := zac HS5.out.tb 0; have qf := zak HS5.out.tb 0; simp only [List.getElem?_toArray, List.getElem?_cons_zero] at q5; clear ho5 hb5 hg5 hat5 hta htf)
       go_roundw
       case rel => exact ⟨j + 1, q2, _, rows ++ [row], by rw [Int.natCast_add]; rfl, by omega, hq2, Lib.hid (by rw [List.length_append, hrl.out]; rfl), HS5.out.setT 0 _ rfl, HC3⟩
       case measure => simp only [intOf]; omega
    ·obtain rfl : j = n0 := by omega
     have hC := HC.out; rw [Nat.sub_self, cat_done] at hC; have HCA := Lib.hid hC.symm; have hy0 := zac (HS.out.fixed _ (List.mem_cons_of_mem _ List.mem_cons_self)).1 0; simp at hy0; have hjb : decide ((j : Int) < (j : Int)) = false := decide_eq_false (by omega)
     clear hC HC
     go_wp2_with fail
     clear hy0 hjb
     go_loopw [74] (fun v w' => ∃ (i q' : Nat) (vG : Value) (gos : List (List Int)), v = .int .i64 (i : Int) ∧ i ≤ j ∧ q' ≤ s.size ∧ Hid (gos.length = i) ∧ Hid (St w0 w' g (rdC s q') 83 bT #[vA, vG] (fixT w.heap.size j n1 n2) nilS vA vG rows gos) ∧ Hid (cat gos (many (many (goR s j) n2) (j - i) q') = many (many (goR s j) n2) j qA)) (fun v _ => j - (intOf v).toNat)
     case atStart => exact ⟨0, qA, nilS, [], rfl, Nat.zero_le _, hqA, Lib.hid rfl, HS, Lib.hid (by rw [Nat.sub_zero, cat_nil])⟩
     case round =>
      clear HS; obtain ⟨i, q', vG, gos, rfl, hi2, hq', hgl2, HS, HC⟩ := hrel; by_cases hin : i < j
      ·have hib : decide ((i : Int) < (j : Int)) = true := decide_eq_true (by omega)
       have hiw : IntKind.i64.wrap ((i : Int) + 1) = (i : Int) + 1 := IntWalk.i64_in _ (by omega)
       have hy2 := zac (HS.out.fixed _ (List.mem_cons_of_mem _ List.mem_cons_self)).1 2; simp at hy2
       go_wp2_with fail
       clear hy2; have HRl : Hid (kI.R 3 wr w0.heap.size tru nilS []) := Kd.R_nil _ _ _ _ _
       go_loopw [78, 13] (fun v vl w' => ∃ (k q2 : Nat) (row : List Int), v = .int .i64 (k : Int) ∧ k ≤ n2 ∧ q2 ≤ s.size ∧ Hid (row.length = k) ∧ Hid (St w0 w' g (rdC s q2) 83 bT #[vA, vG] (fixT w.heap.size j n1 n2) vl vA vG rows gos) ∧ Hid (kI.R 3 w' w0.heap.size tru vl row) ∧ Hid (cat row (many (goR s j) (n2 - k) q2) = many (goR s j) n2 q')) (fun v _ _ => n2 - (intOf v).toNat)
       case atStart => exact ⟨0, q', [], rfl, Nat.zero_le _, hq', Lib.hid rfl, HS, HRl, Lib.hid (by rw [Nat.sub_zero, cat_nil])⟩
       case round =>
        clear HS HRl; obtain ⟨k, q2, row, rfl, hk, hq2, hkl, HS, HRl, HCr⟩ := hrel; by_cases hkn : k < n2
        ·have hkb : decide ((k : Int) < (n2 : Int)) = true := decide_eq_true (by omega)
         have hkw : IntKind.i64.wrap ((k : Int) + 1) = (k : Int) + 1 := IntWalk.i64_in _ (by omega)
         have hy0 := zac (HS.out.fixed _ (List.mem_cons_of_mem _ List.mem_cons_self)).1 0; simp at hy0
         go_wp2_with fail
         refine (within_any s g q2 0 (j : Int) w0 _ ⟨HS.out.rd, hgw⟩ HS.out.below hs hq2).mono ?_; rintro e w4 ⟨q3, hq3, hR, hA⟩; have HS4 := Lib.hid (HS.out.call hR.keep hR.is.1 hR.below); have HRl4 : Hid (kI.R 3 w4 w0.heap.size tru u13 row) := Lib.hid (Kd.zbg (Kd.R_keep (Kd.R_types HRl.out HS.out.rd (kI_E 83 (by decide))) hR.keep (fun _ hk => hk.2)) (fun _ hk => hk.1))
         have hNl : w.heap.size < wr.heap.size := zau (HS.out.fixed _ List.mem_cons_self).1; clear hR HS HRl hy0; rcases ha : within s 0 j q2 with _ | ⟨a, qa⟩
         ·rw [ha] at hA; obtain ⟨ev, rfl, hbad⟩ := hA; have HX := Lib.hid (HS4.out.fixed _ List.mem_cons_self).1; have hx0 := zac HX.out 0; have hx1 := zac HX.out 1; have hx2 := zak HX.out 0; have hx3 := zak HX.out 1; simp at hx0 hx1; have hbo : tabS s p = .error q2 := by
           have e1 : goR s j q2 = .error q2 := by unfold goR; rw [ha]
           have e2 := HCr.out; obtain ⟨m1, hm1⟩ : ∃ m, n2 - k = m + 1 := ⟨n2 - k - 1, by omega⟩
           rw [hm1, cat_bad row e1] at e2; have e3 := HC.out; obtain ⟨m2, hm2⟩ : ∃ m, j - i = m + 1 := ⟨j - i - 1, by omega⟩
           rw [hm2, cat_bad gos e2.symm] at e3; rw [HT.out]; unfold bodS; simp only [Int.toNat_natCast]; rw [HCA.out]; simp only; rw [← e3]
          have HT2 := Lib.hid hbo; have HBad := Lib.hid ((hbad.far (k := w.heap.size) (j := 0) hNl nilS).far (k := w.heap.size) (j := 1) hNl nilS); have HB4 := Lib.hid HS4.out.below; have hN4 : w.heap.size < w4.heap.size := zau HX.out; obtain ⟨b, hb1, rfl, hb2⟩ := hbad; clear hbo hb1 hb2 ha HC HCr
          go_wp2_with fail
          refine bodyPost_ret (zbm rfl _ _ w.heap.size 25 #[nilS, nilS] (0, 0) _ rfl (zar (cs' := #[nilS, nilS]) (zar (cs' := #[nilS, nilS]) HX.out 0 _ rfl) 1 _ rfl) Tryd.underlying25 rfl (by kernel_rfl)) rfl ?_
          exact ⟨zae (zae HB4.out hwl) hwl, by rw [HT2.out]; exact ⟨_, rfl, HBad.out.before (by omega)⟩⟩
         ·rw [ha] at hA; have hab := within_bound ha; obtain ⟨rfl, rfl⟩ := hA; have e2 := HCr.out; obtain ⟨m1, hm1⟩ : ∃ m, n2 - k = m + 1 := ⟨n2 - k - 1, by omega⟩
          rw [hm1, cat_more row (x := a - 1) (q' := q3) (by unfold goR; rw [ha]), show m1 = n2 - (k + 1) by omega] at e2
          have HCr2 := Lib.hid e2; obtain ⟨ha0, ha1, _, _⟩ := hab; simp only at ha0 ha1; have haw : IntKind.i64.wrap (a - 1) = a - 1 := IntWalk.i64_in _ (by omega)
          have HSa := Lib.hid (HS4.out.alloc (.cells #[.int .i64 (a - 1)] 3)); have HRa := Lib.hid (Kd.zba HRl4.out (.cells #[.int .i64 (a - 1)] 3)); have HLa := Lib.hid (zav w4 (.cells #[.int .i64 (a - 1)] 3)); have hbo : (row.length + 1) * 8 ≤ 140737488355328 := by have := hkl.out; omega
          clear ha e2 HCr HS4 HRl4 hm1
          go_wp2_with ((with_reducible refine zax (b := .append) (xs := #[.tmp 91, .tmp 94]) rfl ?_); at_builtin; refine Kd.zbh kI (w0 := w0) w0.heap.size rfl (.tmp 91) (.tmp 94) 95 3 (.int .i64 0) 8 rfl Tryd.underlying95 info3 rfl (by decide) (by omega) _ row [a - 1] (some ⟨w4.heap.size, 0, none⟩) 1 1 tru (fun _ => False) rfl rfl HRa.out (C_one3 HLa.out) (fun _ _ h => h) (fun _ h => h.elim) (fun _ _ => trivial) HSa.out.below HSa.out.below.size hbo ?_; intro v1 w5 ho5 hb5 hg5 hat5)
          have HS5 := Lib.hid (HSa.out.app (.inr rfl) (typed_of HRa.out) hg5 hat5 hb5); have HR5 := Lib.hid ho5; clear ho5 hb5 hg5 hat5 HSa HRa HLa
          go_wp2_with fail
          go_roundw
          case rel => exact ⟨k + 1, q3, row ++ [a - 1], by rw [Int.natCast_add]; rfl, by omega, hq3, Lib.hid (by rw [List.length_append, hkl.out]; rfl), HS5, HR5, HCr2⟩
          case measure => simp only [intOf]; omega
        ·obtain rfl : k = n2 := by omega
         obtain ⟨Al, cl, rfl⟩ := Kd.R_slice HRl.out; obtain ⟨AA, cA, eA⟩ := HS.out.rG.slice; subst eA; have e2 := HCr.out; rw [Nat.sub_self, cat_done] at e2; have e3 := HC.out; obtain ⟨m2, hm2⟩ : ∃ m, j - i = m + 1 := ⟨j - i - 1, by omega⟩
         rw [hm2, cat_more gos e2.symm, show m2 = j - (i + 1) by omega] at e3
         have HC3 := Lib.hid e3; have hta := zac HS.out.tb 1; have htf := zak HS.out.tb 1; simp at hta; obtain ⟨hs0, hA1, hA2, hA3⟩ := HS.out.rG; have hl0 := hA2.len; rw [List.length_map] at hl0; have hbo0 : (hs0.length + 1) * 24 ≤ 140737488355328 := by rw [hl0]; have := hgl2.out; omega
         have HL0 := Lib.hid hl0; have HA0 := Lib.hid hA1; have HA9 := Lib.hid (And.intro hA2 hA3); clear hl0 hA1 hA2 hA3; have hbo : (gos.length + 1) * 24 ≤ 140737488355328 := by have := hgl2.out; omega
         have hkb : decide ((k : Int) < (k : Int)) = false := decide_eq_false (by omega)
         clear e2 e3 HC HCr hm2
         go_wp2_with ((with_reducible refine zax (b := .append) (xs := #[.tmp 98, .tmp 100]) rfl ?_); at_builtin; refine Kd.R_append Bld.kH (w0 := w0) (W := wr) w0.heap.size rfl (.tmp 98) (.tmp 100) 23 95 (.slice none 0 0) 24 rfl Tryd.underlying23 info95 rfl (by decide) (by omega) (.slice AA gos.length cA) hs0 (Al, row.length, cl) [.slice Al row.length cl] Bld.tru (fun _ => False) rfl rfl rfl (fun _ hk => hk.elim) (fun _ _ => trivial) HA0.out HS.out.below HS.out.below.size hbo0 ?_; intro v1 w5 ho5 hb5 hg5 hat5; obtain ⟨A5, c5, e5⟩ := Kd.R_slice ho5; rw [List.length_append, List.length_singleton, HL0.out] at e5; subst e5; have HS5 := Lib.hid (HS.out.appG rfl HRl.out HA0.out HA9.out.1 HA9.out.2 ho5 hg5 hb5); have q5 := zac HS5.out.tb 1; have qf := zak HS5.out.tb 1; simp only [List.getElem?_toArray, List.getElem?_cons_zero, List.getElem?_cons_succ] at q5; clear ho5 hb5 hg5 hat5 hta htf)
         go_roundw
         case rel => exact ⟨i + 1, q2, _, gos ++ [row], by rw [Int.natCast_add]; rfl, by omega, hq2, Lib.hid (by rw [List.length_append, hgl2.out]; rfl), HS5.out.setT 1 _ rfl, HC3⟩
         case measure => simp only [intOf]; omega
      ·obtain rfl : i = j := by omega
       have hC := HC.out; rw [Nat.sub_self, cat_done] at hC; have hib : decide ((i : Int) < (i : Int)) = false := decide_eq_false (by omega)
       have hT : tabS s p = if q' < s.size then .error q' else .ok (rows, gos) := by
        rw [HT.out]; unfold bodS; simp only [Int.toNat_natCast]; rw [HCA.out]; simp only; rw [← hC]
       have HT2 := Lib.hid hT; clear hC HC hT HT HCA; obtain ⟨AA, cA, eA⟩ := HS.out.rA.slice; obtain ⟨AG, cG, eG⟩ := HS.out.rG.slice; subst eA; subst eG; have hr0 := zac HS.out.rd 0; have hr1 := zac HS.out.rd 1; simp at hr0 hr1; have HX := Lib.hid (HS.out.fixed _ List.mem_cons_self).1; have hx0 := zac HX.out 0; have hx1 := zac HX.out 1; have hx2 := zak HX.out 0; have hx3 := zak HX.out 1; simp at hx0 hx1; have ht0 := zac HS.out.tb 0; have ht1 := zac HS.out.tb 1; simp at ht0 ht1; by_cases hqs : q' < s.size
       ·go_wp2_with fail
        go_quiet (fail)
        have HSX := Lib.hid (HS.out.drewN nq); clear hr0 hr1 hx0 hx1 hx2 hx3 ht0 ht1 HX HS; generalize wr.drewN nq = X at *; have hr0 := zac HSX.out.rd 0; have hr1 := zac HSX.out.rd 1; simp at hr0 hr1; have HX := Lib.hid (HSX.out.fixed _ List.mem_cons_self).1; have hx0 := zac HX.out 0; have hx1 := zac HX.out 1; have hx2 := zak HX.out 0; have hx3 := zak HX.out 1; simp at hx0 hx1; have hNX := zau HX.out; have hgX : g < X.heap.size := zau HSX.out.rd
        go_wp2_with fail
        go_region
        go_wp2_with fail
        refine bodyPost_ret (zbm rfl _ _ w.heap.size 25 #[nilS, nilS] (0, 0) _ rfl (zaj (zad (zar (cs' := #[nilS, nilS]) (zar (cs' := #[nilS, nilS]) HX.out 0 _ rfl) 1 _ rfl) _)) Tryd.underlying25 rfl (by kernel_rfl)) rfl ?_
        refine ⟨zbl (zab (zae (zae HSX.out.below hwl) hwl) _), ?_⟩; rw [HT2.out, if_pos hqs]; exact ⟨_, rfl, X.heap.size, Nat.le_of_lt (by omega), rfl, zaj (blk_new_set2 _ _ _ _ _ _)⟩
       ·go_wp2_with fail
        go_quiet (fail)
        have HSX := Lib.hid (HS.out.drewN nq); clear hr0 hr1 hx0 hx1 hx2 hx3 ht0 ht1 HX HS; generalize wr.drewN nq = X at *; have ht0 := zac HSX.out.tb 0; have ht1 := zac HSX.out.tb 1; simp at ht0 ht1; have HX := Lib.hid (HSX.out.fixed _ List.mem_cons_self).1; have hx0 := zac HX.out 0; have hx1 := zac HX.out 1; have hx2 := zak HX.out 0; have hx3 := zak HX.out 1; simp at hx0 hx1
        go_wp2_with fail
        refine bodyPost_ret (zbm rfl _ _ w.heap.size 25 #[.slice AA rows.length cA, .slice AG gos.length cG] (0, 0) _ rfl (zar (cs' := #[.slice AA rows.length cA, .slice AG gos.length cG]) (zar (cs' := #[.slice AA rows.length cA, nilS]) HX.out 0 _ rfl) 1 _ rfl) Tryd.underlying25 rfl (by kernel_rfl)) rfl ?_
        refine ⟨zae (zae HSX.out.below hwl) hwl, ?_⟩; rw [HT2.out, if_neg hqs]; refine ⟨_, _, rfl, ?_, ?_⟩
        ·exact (HSX.out.rA.drop.set HX.out (by decide) (by decide) 0 _).set (blk_set HX.out 0 _) (by decide) (by decide) 1 _
        ·exact (HSX.out.rG.drop.set HX.out (by decide) (by decide) 0 _).set (blk_set HX.out 0 _) (by decide) (by decide) 1 _
theorem RowsOwn.lower {α : Type} {k : Kd α} {t o : Nat} {W : World} {base base' : Nat} {vl v : Value} {rows : List (List α)} (h : RowsOwn k t o W base vl v rows) (hb : base' ≤ base) : RowsOwn k t o W base' vl v rows := by
 obtain ⟨hs, a, b, c⟩ := h; exact ⟨hs, Kd.R_lower a hb, b.lower hb, c⟩
set_option maxRecDepth 100000 in
set_option maxHeartbeats 4000000 in
theorem decode_any (s : ByteArray) (w : World) (hs : s.size ≤ 140737488351232) :
  Calls Tryd.prog 9 #[.string s] w fun e w' => Below w.heap.size w w' ∧ TabE (decS s) w w w' e := by
 have HX := Lib.hid (zad (zav w (.cells #[nilS, nilS] 25)) (.cells #[.int .u8 84, .int .u8 1] 5)); have hY := zav (w.alloc (.cells #[nilS, nilS] 25)) (.cells #[.int .u8 84, .int .u8 1] 5); rw [World.size_alloc] at hY; have HY := Lib.hid hY; have HB := Lib.hid (zab (zab (Below.refl _ w) (.cells #[nilS, nilS] 25)) (.cells #[.int .u8 84, .int .u8 1] 5)); clear hY
 go_enter Tryd.func9, Tryd.ntmps9
 go_wp2_with fail
 go_loopw [9] (fun v w' => ∃ i : Nat, v = .int .i64 (i : Int) ∧ i ≤ 2 ∧ Hid (Below w.heap.size w w') ∧ Hid (w'.heap[w.heap.size]? = some (.cells #[nilS, nilS] 25 (0, 0))) ∧ Hid (w'.heap[w.heap.size + 1]? = some (.cells #[.int .u8 84, .int .u8 1] 5 (0, 0))) ∧ Hid ((1 ≤ i → 0 < s.size ∧ bt s 0 = 84) ∧ (2 ≤ i → 1 < s.size ∧ bt s 1 = 1))) (fun v _ => 2 - (intOf v).toNat)
 case atStart => exact ⟨0, rfl, by omega, HB, HX, HY, Lib.hid ⟨fun h => by omega, fun h => by omega⟩⟩
 case round =>
  clear HB HX HY; obtain ⟨i, rfl, hi, HB, HX, HY, HH⟩ := hrel; have hx0 := zac HX.out 0; have hx1 := zac HX.out 1; have hx2 := zak HX.out 0; have hx3 := zak HX.out 1; have hy0 := zac HY.out 0; have hy1 := zac HY.out 1; simp at hx0 hx1 hy0 hy1; have hXl := zau HX.out
  match i, hi with
  | 0, _ =>
   rw [show ((0 : Nat) : Int) = 0 from rfl]; by_cases hl : 0 < s.size
   ·have hlb : (0 : Int) < (s.size : Int) := by omega
    have hb8 := bt_at s 0 (by simpa using hl)
    have hne : ¬ s = ByteArray.empty := fun h => by rw [h] at hl; exact absurd hl (by decide)
    by_cases hb : ((s[0]'hl).toNat : Int) = 84
    ·have hbt : bt s 0 = 84 := hb8.symm.trans hb; have HH2 : Hid ((1 ≤ 0+1 → 0 < s.size ∧ bt s 0 = 84) ∧ (2 ≤ 0+1 → 1 < s.size ∧ bt s 1 = 1)) := Lib.hid ⟨fun _ => ⟨hl, hbt⟩, fun _ => by omega⟩
     have hbb : (((s[0]'hl).toNat : Int) != 84) = false := by rw [hb]; rfl
     clear hbt hb8 hb
     go_wp2_with fail
     go_roundw
     case rel => exact ⟨1, rfl, by omega, HB, HX, HY, HH2⟩
     case measure => simp [intOf]
    ·have hD : decS s = .error 0 := by unfold decS; exact if_pos (fun h => hb (hb8.trans h.2))
     have hbb : (((s[0]'hl).toNat : Int) != 84) = true := by simpa using hb
     clear hb8 hb; have HT2 := Lib.hid hD; clear hD
     go_wp2_with fail
     refine bodyPost_ret (zbm rfl _ _ w.heap.size 25 #[nilS, nilS] (0, 0) _ rfl (zad (zar (cs' := #[nilS, nilS]) (zar (cs' := #[nilS, nilS]) HX.out 0 _ rfl) 1 _ rfl) _) Tryd.underlying25 rfl (by kernel_rfl)) rfl ?_
     refine ⟨zab (zae (zae HB.out (Nat.le_refl _)) (Nat.le_refl _)) _, ?_⟩; rw [HT2.out]; exact ⟨_, rfl, wr.heap.size, HB.out.size, rfl, blk_new_set2 _ _ _ _ _ _⟩
   ·have hlb : ¬ (0 : Int) < (s.size : Int) := by omega
    have hem : s = ByteArray.empty := ByteArray.size_eq_zero_iff.1 (by omega)
    have hD : decS s = .error 0 := by unfold decS; exact if_pos (fun h => hl h.1)
    rw [hem] at hD; have HT2 := Lib.hid hD; clear hD
    go_wp2_with fail
    refine bodyPost_ret (zbm rfl _ _ w.heap.size 25 #[nilS, nilS] (0, 0) _ rfl (zad (zar (cs' := #[nilS, nilS]) (zar (cs' := #[nilS, nilS]) HX.out 0 _ rfl) 1 _ rfl) _) Tryd.underlying25 rfl (by kernel_rfl)) rfl ?_
    refine ⟨zab (zae (zae HB.out (Nat.le_refl _)) (Nat.le_refl _)) _, ?_⟩; rw [HT2.out]; exact ⟨_, rfl, wr.heap.size, HB.out.size, rfl, blk_new_set2 _ _ _ _ _ _⟩
  | 1, _ =>
   rw [show ((1 : Nat) : Int) = 1 from rfl]; by_cases hl : 1 < s.size
   ·have hlb : (1 : Int) < (s.size : Int) := by omega
    have hb8 := bt_at s 1 (by simpa using hl)
    have hne : ¬ s = ByteArray.empty := fun h => by rw [h] at hl; exact absurd hl (by decide)
    by_cases hb : ((s[1]'hl).toNat : Int) = 1
    ·have hbt : bt s 1 = 1 := hb8.symm.trans hb; have HH2 : Hid ((1 ≤ 1+1 → 0 < s.size ∧ bt s 0 = 84) ∧ (2 ≤ 1+1 → 1 < s.size ∧ bt s 1 = 1)) := Lib.hid ⟨fun _ => HH.out.1 (by omega), fun _ => ⟨hl, hbt⟩⟩
     have hbb : (((s[1]'hl).toNat : Int) != 1) = false := by rw [hb]; rfl
     clear hbt hb8 hb
     go_wp2_with fail
     go_roundw
     case rel => exact ⟨2, rfl, by omega, HB, HX, HY, HH2⟩
     case measure => simp [intOf]
    ·have hD : decS s = .error 1 := by unfold decS; rw [if_neg (fun hn => hn (HH.out.1 (by omega)))]; exact if_pos (fun h => hb (hb8.trans h.2))
     have hbb : (((s[1]'hl).toNat : Int) != 1) = true := by simpa using hb
     clear hb8 hb; have HT2 := Lib.hid hD; clear hD
     go_wp2_with fail
     refine bodyPost_ret (zbm rfl _ _ w.heap.size 25 #[nilS, nilS] (0, 0) _ rfl (zad (zar (cs' := #[nilS, nilS]) (zar (cs' := #[nilS, nilS]) HX.out 0 _ rfl) 1 _ rfl) _) Tryd.underlying25 rfl (by kernel_rfl)) rfl ?_
     refine ⟨zab (zae (zae HB.out (Nat.le_refl _)) (Nat.le_refl _)) _, ?_⟩; rw [HT2.out]; exact ⟨_, rfl, wr.heap.size, HB.out.size, rfl, blk_new_set2 _ _ _ _ _ _⟩
   ·have hlb : ¬ (1 : Int) < (s.size : Int) := by omega
    have hD : decS s = .error 1 := by unfold decS; rw [if_neg (fun hn => hn (HH.out.1 (by omega)))]; exact if_pos (fun h => hl h.1)
    have HT2 := Lib.hid hD; clear hD
    go_wp2_with fail
    refine bodyPost_ret (zbm rfl _ _ w.heap.size 25 #[nilS, nilS] (0, 0) _ rfl (zad (zar (cs' := #[nilS, nilS]) (zar (cs' := #[nilS, nilS]) HX.out 0 _ rfl) 1 _ rfl) _) Tryd.underlying25 rfl (by kernel_rfl)) rfl ?_
    refine ⟨zab (zae (zae HB.out (Nat.le_refl _)) (Nat.le_refl _)) _, ?_⟩; rw [HT2.out]; exact ⟨_, rfl, wr.heap.size, HB.out.size, rfl, blk_new_set2 _ _ _ _ _ _⟩
  | 2, _ =>
   rw [show ((2 : Nat) : Int) = 2 from rfl]; have hD : decS s = tabS s 2 := by unfold decS; rw [if_neg (fun hn => hn (HH.out.1 (by omega))), if_neg (fun hn => hn (HH.out.2 (by omega)))]
   have hl : 1 < s.size := (HH.out.2 (by omega)).1
   have HD := Lib.hid hD; clear hD HH; have HT := Lib.hid (table_any s wr.heap.size 2 wr _ ⟨zav wr (.cells #[.string s, .int .i64 2] 83), Nat.le_refl _⟩ (zab (Below.refl _ wr) _) hs (by omega))
   go_wp2_with fail
   refine HT.out.mono ?_; rintro e w5 ⟨hb5, hT⟩; have HB5 := Lib.hid (zam HB.out hb5); have HX5 := Lib.hid (zal HX.out hb5); clear hb5 HT hx0 hx1 hx2 hx3 hy0 hy1; have hx0 := zac HX5.out 0; have hx1 := zac HX5.out 1; have hx2 := zak HX5.out 0; have hx3 := zak HX5.out 1; simp at hx0 hx1; rcases htb : tabS s 2 with p | ⟨rows, gos⟩
   ·rw [htb] at hT; obtain ⟨ev, rfl, hbad⟩ := hT; have hD := HD.out; rw [htb] at hD; have HD2 := Lib.hid hD; have HBad := Lib.hid ((hbad.far (k := w.heap.size) (j := 0) (by rw [World.size_alloc]; omega) nilS).far (k := w.heap.size) (j := 1) (by rw [World.size_alloc]; omega) nilS)
    obtain ⟨b, hb1, rfl, hb2⟩ := hbad; clear hb1 hb2 htb hD HD
    go_wp2_with fail
    refine bodyPost_ret (zbm rfl _ _ w.heap.size 25 #[nilS, nilS] (0, 0) _ rfl (zar (cs' := #[nilS, nilS]) (zar (cs' := #[nilS, nilS]) HX5.out 0 _ rfl) 1 _ rfl) Tryd.underlying25 rfl (by kernel_rfl)) rfl ?_
    refine ⟨zae (zae HB5.out (Nat.le_refl _)) (Nat.le_refl _), ?_⟩; rw [HD2.out]; exact ⟨_, rfl, HBad.out.before (by rw [World.size_alloc]; omega)⟩
   ·rw [htb] at hT; obtain ⟨vA, vG, rfl, hA, hG⟩ := hT; have hD := HD.out; rw [htb] at hD; have HD2 := Lib.hid hD; obtain ⟨AA, cA, eA⟩ := hA.slice; obtain ⟨AG, cG, eG⟩ := hG.slice; subst eA; subst eG; have HA := Lib.hid (hA.lower HB.out.size); have HG := Lib.hid (hG.lower HB.out.size); clear htb hD HD hA hG; simp only at HA HG
    go_wp2_with fail
    refine bodyPost_ret (zbm rfl _ _ w.heap.size 25 #[.slice AA rows.length cA, .slice AG gos.length cG] (0, 0) _ rfl (zar (cs' := #[.slice AA rows.length cA, .slice AG gos.length cG]) (zar (cs' := #[.slice AA rows.length cA, nilS]) HX5.out 0 _ rfl) 1 _ rfl) Tryd.underlying25 rfl (by kernel_rfl)) rfl ?_
    refine ⟨zae (zae HB5.out (Nat.le_refl _)) (Nat.le_refl _), ?_⟩; rw [HD2.out]; refine ⟨_, _, rfl, ?_, ?_⟩
    ·exact (HA.out.set HX5.out (by decide) (by decide) 0 _).set (blk_set HX5.out 0 _) (by decide) (by decide) 1 _
    ·exact (HG.out.set HX5.out (by decide) (by decide) 0 _).set (blk_set HX5.out 0 _) (by decide) (by decide) 1 _
end Dec
end Go.Proofs.YtcijanmckhlpiaaDoor
