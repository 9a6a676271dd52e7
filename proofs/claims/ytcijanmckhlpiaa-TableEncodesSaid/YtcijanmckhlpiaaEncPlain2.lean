import Derived.Test.YtcijanmckhlpiaaEncPlain
namespace Go.Proofs.Ytcijanmckhlpiaa
open Go.RowKit Go.Proofs.YtcijanmckhlpiaaW.PrintWords Go.Proofs.YtcijanmckhlpiaaW.PrintLast Go.Proofs.YtcijanmckhlpiaaW.PrintMore Go.Proofs.Ytcijanmckhlpiaa.PTableEncodes
set_option linter.unusedVariables false
set_option linter.unusedSimpArgs false

/-- An action's number, of one that fits. -/
def aNum (a : S80) : Nat := if a.f0 = 0 then 0 else if a.f0 = 3 then 1 else if a.f0 = 1 then (2 * a.f1 + 2).toNat else (2 * a.f1 + 3).toNat
def aE (a : S80) : List Int := cnt (aNum a)
def gE (g : Int) : List Int := cnt (g + 1).toNat
def fitsP (a : S80) : Prop := (a.f0 = 0 ∨ a.f0 = 3) ∨ ((a.f0 = 1 ∨ a.f0 = 2) ∧ 0 ≤ a.f1 ∧ a.f1 < 2048)
def inP (g : Int) : Prop := -1 ≤ g ∧ g < 2048
def rowsA (l : List (List S80)) : List Int := l.flatMap fun r => r.flatMap aE
def rowsG (m : List (List Int)) : List Int := m.flatMap fun g => g.flatMap gE

theorem count_f {acc : List Int} {n : Nat} {x : Int} (hx : x = (n : Int)) (h : acc.length + (cnt n).length < 140737488355328) : Ev (fun k => table_count.f k acc x) (acc ++ cnt n) := by
  subst hx
  exact count_ev n n (Nat.le_refl _) acc h
theorem rcount_f {n : Nat} {x : Int} (hx : x = (n : Int)) (hb : n ≤ 9223372036854775807) (h : (cnt n).length < 140737488355328) : Ev (fun k => trellisref13_count.f k x) (cnt n) := by
  subst hx
  have := rcount_ev n n (Nat.le_refl _) hb [] (by simpa using h)
  rwa [List.nil_append] at this

theorem enc_l4 (m : List (List Int)) (s : Nat) (g : List Int) (hg : g.length ≤ 9223372036854775807) (hin : ∀ x ∈ g, inP x) (rest : List Int)
    (hn : ∀ acc : List Int, (acc ++ rest).length < 140737488355328 → Ev (fun k => table_Encode.l3 k acc m (m.length : Int) (wrap64 ((s : Int) + 1))) (strOfNums (acc ++ rest))) :
    ∀ (d i : Nat), g.length - i = d → i ≤ g.length → ∀ acc : List Int, (acc ++ ((g.drop i).flatMap gE ++ rest)).length < 140737488355328 → Ev (fun k => table_Encode.l4 k acc m (m.length : Int) s g (g.length : Int) i) (strOfNums (acc ++ ((g.drop i).flatMap gE ++ rest))) := by
  intro d
  induction d with
  | zero =>
    intro i hd hi acc hl
    rw [List.drop_eq_nil_of_le (by omega)] at hl ⊢
    exact Ev.step (fun k => by simp only [table_Encode.l4]; rw [if_neg (by omega)]) (hn acc hl)
  | succ d ih =>
    intro i hd hi acc hl
    have hlt : i < g.length := by omega
    rw [List.drop_eq_getElem_cons hlt] at hl ⊢
    rw [List.flatMap_cons, List.append_assoc, ← List.append_assoc] at hl ⊢
    have hx := hin _ (List.getElem_mem hlt)
    have h := ih (i + 1) (by omega) (by omega) (acc ++ gE g[i]) hl
    refine Ev.step (fun k => ?_) (Ev.bind (f := fun k t => table_Encode.l4 k t m (m.length : Int) s g (g.length : Int) ((i + 1 : Nat) : Int)) (count_f (n := (g[i] + 1).toNat) (x := wrap64 (g[i] + 1)) (by unfold inP at hx; unfold wrap64; omega) (by simp only [List.length_append, gE] at hl; omega)) h)
    simp only [table_Encode.l4]
    rw [if_pos (by omega), if_pos (by omega), if_pos (by omega), rd_nat g i hlt, w64n (by omega)]
theorem enc_l3 (m : List (List Int)) (hm : m.length ≤ 2048) (hbm : ∀ x ∈ m, x.length ≤ 9223372036854775807) (hin : ∀ x ∈ m, ∀ y ∈ x, inP y) : ∀ (d s : Nat), m.length - s = d → s ≤ m.length → ∀ acc : List Int, (acc ++ rowsG (m.drop s)).length < 140737488355328 →
    Ev (fun k => table_Encode.l3 k acc m (m.length : Int) s) (strOfNums (acc ++ rowsG (m.drop s))) := by
  intro d
  induction d with
  | zero =>
    intro s hd hs acc hl
    rw [List.drop_eq_nil_of_le (by omega)] at hl ⊢
    refine Ev.step (f := fun _ => some (strOfNums (acc ++ rowsG []))) (fun k => ?_) (Ev.now _)
    simp only [table_Encode.l3]
    rw [if_neg (by omega)]
    simp [rowsG]
  | succ d ih =>
    intro s hd hs acc hl
    have hlt : s < m.length := by omega
    rw [List.drop_eq_getElem_cons hlt] at hl ⊢
    unfold rowsG at hl ⊢
    rw [List.flatMap_cons] at hl ⊢
    refine Ev.step (fun k => ?_) (enc_l4 m s (m[s]) (hbm _ (List.getElem_mem hlt)) (hin _ (List.getElem_mem hlt)) (rowsG (m.drop (s + 1))) (fun acc' h' => by rw [w64n (by omega)]; exact ih (s + 1) (by omega) (by omega) acc' h') _ 0 rfl (Nat.zero_le _) acc hl)
    simp only [table_Encode.l3]
    rw [if_pos (by omega), if_pos (by omega), if_pos (by omega), rdL3_nat m s hlt]
    rfl
theorem enc_l2 (l : List (List S80)) (m : List (List Int)) (s : Nat) (r : List S80) (hr : r.length ≤ 9223372036854775807) (hin : ∀ x ∈ r, fitsP x) (rest : List Int)
    (hn : ∀ acc : List Int, (acc ++ rest).length < 140737488355328 → Ev (fun k => table_Encode.l1 k acc l (l.length : Int) (wrap64 ((s : Int) + 1)) l m) (strOfNums (acc ++ rest))) :
    ∀ (d i : Nat), r.length - i = d → i ≤ r.length → ∀ acc : List Int, (acc ++ ((r.drop i).flatMap aE ++ rest)).length < 140737488355328 → Ev (fun k => table_Encode.l2 k acc l (l.length : Int) s r (r.length : Int) i l m) (strOfNums (acc ++ ((r.drop i).flatMap aE ++ rest))) := by
  intro d
  induction d with
  | zero =>
    intro i hd hi acc hl
    rw [List.drop_eq_nil_of_le (by omega)] at hl ⊢
    exact Ev.step (fun k => by simp only [table_Encode.l2]; rw [if_neg (by omega)]) (hn acc hl)
  | succ d ih =>
    intro i hd hi acc hl
    have hlt : i < r.length := by omega
    rw [List.drop_eq_getElem_cons hlt] at hl ⊢
    rw [List.flatMap_cons, List.append_assoc, ← List.append_assoc] at hl ⊢
    have hx := hin _ (List.getElem_mem hlt)
    have h := ih (i + 1) (by omega) (by omega) (acc ++ aE r[i]) hl
    have hc : acc.length + (cnt (aNum r[i])).length < 140737488355328 := by simp only [List.length_append, aE] at hl; omega
    have key : ∀ x : Int, x = ((aNum r[i] : Nat) : Int) → Ev (fun k => (table_count.f k acc x).bind fun t => table_Encode.l2 k t l (l.length : Int) s r (r.length : Int) ((i + 1 : Nat) : Int) l m) (strOfNums (acc ++ aE r[i] ++ ((r.drop (i + 1)).flatMap aE ++ rest))) := by
      intro x hx
      exact Ev.bind (f := fun k t => table_Encode.l2 k t l (l.length : Int) s r (r.length : Int) ((i + 1 : Nat) : Int) l m) (count_f hx hc) h
    generalize hz : r[i] = z at *
    unfold fitsP at hx
    by_cases h0 : z.f0 = 0
    · refine Ev.step (fun k => ?_) (key 0 (by simp [aNum, h0]))
      simp only [table_Encode.l2]
      rw [if_pos (by omega), if_pos (by omega), if_pos (by omega), rdT_nat r i hlt, hz, if_pos h0, w64n (by omega)]
    · by_cases h3 : z.f0 = 3
      · refine Ev.step (fun k => ?_) (key 1 (by simp [aNum, h3]))
        simp only [table_Encode.l2]
        rw [if_pos (by omega), if_pos (by omega), if_pos (by omega), rdT_nat r i hlt, hz, if_neg h0, if_pos h3, w64n (by omega)]
      · by_cases h1 : z.f0 = 1
        · refine Ev.step (fun k => ?_) (key (wrap64 ((wrap64 (2 * z.f1)) + 2)) (by unfold aNum; rw [if_neg h0, if_neg h3, if_pos h1]; unfold wrap64; omega))
          simp only [table_Encode.l2]
          rw [if_pos (by omega), if_pos (by omega), if_pos (by omega), rdT_nat r i hlt, hz, if_neg h0, if_neg h3, if_pos h1, w64n (by omega)]
        · refine Ev.step (fun k => ?_) (key (wrap64 ((wrap64 (2 * z.f1)) + 3)) (by unfold aNum; rw [if_neg h0, if_neg h3, if_neg h1]; unfold wrap64; omega))
          simp only [table_Encode.l2]
          rw [if_pos (by omega), if_pos (by omega), if_pos (by omega), rdT_nat r i hlt, hz, if_neg h0, if_neg h3, if_neg h1, if_pos (by omega), w64n (by omega)]
theorem enc_l1 (l : List (List S80)) (m : List (List Int)) (hl0 : l.length ≤ 2048) (hm : m.length ≤ 2048) (hbl : ∀ x ∈ l, x.length ≤ 9223372036854775807) (hbm : ∀ x ∈ m, x.length ≤ 9223372036854775807) (hinl : ∀ x ∈ l, ∀ y ∈ x, fitsP y) (hin : ∀ x ∈ m, ∀ y ∈ x, inP y) :
    ∀ (d s : Nat), l.length - s = d → s ≤ l.length → ∀ acc : List Int, (acc ++ (rowsA (l.drop s) ++ rowsG m)).length < 140737488355328 →
    Ev (fun k => table_Encode.l1 k acc l (l.length : Int) s l m) (strOfNums (acc ++ (rowsA (l.drop s) ++ rowsG m))) := by
  intro d
  induction d with
  | zero =>
    intro s hd hs acc hl
    rw [List.drop_eq_nil_of_le (by omega)] at hl ⊢
    refine Ev.step (fun k => ?_) (enc_l3 m hm hbm hin _ 0 rfl (Nat.zero_le _) acc hl)
    simp only [table_Encode.l1]
    rw [if_neg (by omega)]
    rfl
  | succ d ih =>
    intro s hd hs acc hl
    have hlt : s < l.length := by omega
    rw [List.drop_eq_getElem_cons hlt] at hl ⊢
    unfold rowsA at hl ⊢
    rw [List.flatMap_cons, List.append_assoc] at hl ⊢
    refine Ev.step (fun k => ?_) (enc_l2 l m s (l[s]) (hbl _ (List.getElem_mem hlt)) (hinl _ (List.getElem_mem hlt)) (rowsA (l.drop (s + 1)) ++ rowsG m) (fun acc' h' => by rw [w64n (by omega)]; exact ih (s + 1) (by omega) (by omega) acc' h') _ 0 rfl (Nat.zero_le _) acc hl)
    simp only [table_Encode.l1]
    rw [if_pos (by omega), if_pos (by omega), if_pos (by omega), rdL2_nat l s hlt]
    rfl
/-! ### the document's loops -/
theorem renc_l3 (l : List (List S80)) (m : List (List Int)) (s : Nat) (hs : s < m.length) (hg : (m[s]).length ≤ 9223372036854775807) (hin : ∀ x ∈ m[s], inP x) (rest : List Int)
    (hn : ∀ acc : List Int, (acc ++ rest).length < 140737488355328 → Ev (fun k => trellisref13_Encode.l2 k acc (wrap64 ((s : Int) + 1)) l m) (strOfNums (acc ++ rest))) :
    ∀ (d i : Nat), (m[s]).length - i = d → i ≤ (m[s]).length → ∀ acc : List Int, (acc ++ (((m[s]).drop i).flatMap gE ++ rest)).length < 140737488355328 → Ev (fun k => trellisref13_Encode.l3 k acc s i l m) (strOfNums (acc ++ (((m[s]).drop i).flatMap gE ++ rest))) := by
  intro d
  induction d with
  | zero =>
    intro i hd hi acc hl
    rw [List.drop_eq_nil_of_le (by omega)] at hl ⊢
    exact Ev.step (fun k => by simp only [trellisref13_Encode.l3]; rw [if_pos (by omega), if_pos (by omega), rdL3_nat m s hs, if_neg (by omega)]) (hn acc hl)
  | succ d ih =>
    intro i hd hi acc hl
    have hlt : i < (m[s]).length := by omega
    rw [List.drop_eq_getElem_cons hlt] at hl ⊢
    rw [List.flatMap_cons, List.append_assoc, ← List.append_assoc] at hl ⊢
    have hx := hin _ (List.getElem_mem hlt)
    have h := ih (i + 1) (by omega) (by omega) (acc ++ gE (m[s])[i]) hl
    have hc : acc.length + (cnt ((m[s])[i] + 1).toNat).length < 140737488355328 := by simp only [List.length_append, gE] at hl; omega
    unfold inP at hx
    refine Ev.step (fun k => ?_) (Ev.bind (f := fun k t => if acc.length + t.length < 140737488355328 then trellisref13_Encode.l3 k (acc ++ t) s ((i + 1 : Nat) : Int) l m else none) (rcount_f (n := ((m[s])[i] + 1).toNat) (x := wrap64 ((m[s])[i] + 1)) (by unfold wrap64; omega) (by omega) (by omega)) (Ev.congr (fun k => by rw [if_pos hc]; rfl) h))
    simp only [trellisref13_Encode.l3]
    rw [if_pos (by omega), if_pos (by omega), rdL3_nat m s hs, if_pos (by omega), if_pos (by omega), rd_nat (m[s]) i hlt, w64n (by omega)]
theorem renc_l2 (l : List (List S80)) (m : List (List Int)) (hm : m.length ≤ 2048) (hbm : ∀ x ∈ m, x.length ≤ 9223372036854775807) (hin : ∀ x ∈ m, ∀ y ∈ x, inP y) : ∀ (d s : Nat), m.length - s = d → s ≤ m.length → ∀ acc : List Int, (acc ++ rowsG (m.drop s)).length < 140737488355328 →
    Ev (fun k => trellisref13_Encode.l2 k acc s l m) (strOfNums (acc ++ rowsG (m.drop s))) := by
  intro d
  induction d with
  | zero =>
    intro s hd hs acc hl
    rw [List.drop_eq_nil_of_le (by omega)] at hl ⊢
    refine Ev.step (f := fun _ => some (strOfNums (acc ++ rowsG []))) (fun k => ?_) (Ev.now _)
    simp only [trellisref13_Encode.l2]
    rw [if_neg (by omega)]
    simp [rowsG]
  | succ d ih =>
    intro s hd hs acc hl
    have hlt : s < m.length := by omega
    rw [List.drop_eq_getElem_cons hlt] at hl ⊢
    unfold rowsG at hl ⊢
    rw [List.flatMap_cons] at hl ⊢
    refine Ev.step (fun k => ?_) (renc_l3 l m s hlt (hbm _ (List.getElem_mem hlt)) (hin _ (List.getElem_mem hlt)) (rowsG (m.drop (s + 1))) (fun acc' h' => by rw [w64n (by omega)]; exact ih (s + 1) (by omega) (by omega) acc' h') _ 0 rfl (Nat.zero_le _) acc hl)
    simp only [trellisref13_Encode.l2]
    rw [if_pos (by omega)]
    rfl
theorem renc_l1 (l : List (List S80)) (m : List (List Int)) (s : Nat) (hs : s < l.length) (hr : (l[s]).length ≤ 9223372036854775807) (hin : ∀ x ∈ l[s], fitsP x) (rest : List Int)
    (hn : ∀ acc : List Int, (acc ++ rest).length < 140737488355328 → Ev (fun k => trellisref13_Encode.l0 k acc (wrap64 ((s : Int) + 1)) l m) (strOfNums (acc ++ rest))) :
    ∀ (d i : Nat), (l[s]).length - i = d → i ≤ (l[s]).length → ∀ acc : List Int, (acc ++ (((l[s]).drop i).flatMap aE ++ rest)).length < 140737488355328 → Ev (fun k => trellisref13_Encode.l1 k acc s i l m) (strOfNums (acc ++ (((l[s]).drop i).flatMap aE ++ rest))) := by
  intro d
  induction d with
  | zero =>
    intro i hd hi acc hl
    rw [List.drop_eq_nil_of_le (by omega)] at hl ⊢
    exact Ev.step (fun k => by simp only [trellisref13_Encode.l1]; rw [if_pos (by omega), if_pos (by omega), rdL2_nat l s hs, if_neg (by omega)]) (hn acc hl)
  | succ d ih =>
    intro i hd hi acc hl
    have hlt : i < (l[s]).length := by omega
    rw [List.drop_eq_getElem_cons hlt] at hl ⊢
    rw [List.flatMap_cons, List.append_assoc, ← List.append_assoc] at hl ⊢
    have hx := hin _ (List.getElem_mem hlt)
    have h := ih (i + 1) (by omega) (by omega) (acc ++ aE (l[s])[i]) hl
    have hc : acc.length + (cnt (aNum (l[s])[i])).length < 140737488355328 := by simp only [List.length_append, aE] at hl; omega
    have hnum : aNum (l[s])[i] ≤ 9223372036854775807 := by unfold aNum; unfold fitsP at hx; split <;> (try split) <;> (try split) <;> omega
    have key : ∀ x : Int, x = ((aNum (l[s])[i] : Nat) : Int) → Ev (fun k => (trellisref13_count.f k x).bind fun t => if acc.length + t.length < 140737488355328 then trellisref13_Encode.l1 k (acc ++ t) s ((i + 1 : Nat) : Int) l m else none) (strOfNums (acc ++ aE (l[s])[i] ++ (((l[s]).drop (i + 1)).flatMap aE ++ rest))) := by
      intro x hx
      exact Ev.bind (f := fun k t => if acc.length + t.length < 140737488355328 then trellisref13_Encode.l1 k (acc ++ t) s ((i + 1 : Nat) : Int) l m else none) (rcount_f hx hnum (by omega)) (Ev.congr (fun k => by rw [if_pos hc]; rfl) h)
    generalize hz : (l[s])[i] = z at *
    unfold fitsP at hx
    by_cases h0 : z.f0 = 0
    · refine Ev.step (fun k => ?_) (key 0 (by simp [aNum, h0]))
      simp only [trellisref13_Encode.l1]
      rw [if_pos (by omega), if_pos (by omega), rdL2_nat l s hs, if_pos (by omega), if_pos (by omega), rdT_nat (l[s]) i hlt, hz, if_neg (by omega), if_neg (by omega), if_neg (by omega), w64n (by omega)]
    · by_cases h3 : z.f0 = 3
      · refine Ev.step (fun k => ?_) (key 1 (by simp [aNum, h3]))
        simp only [trellisref13_Encode.l1]
        rw [if_pos (by omega), if_pos (by omega), rdL2_nat l s hs, if_pos (by omega), if_pos (by omega), rdT_nat (l[s]) i hlt, hz, if_pos h3, w64n (by omega)]
      · by_cases h1 : z.f0 = 1
        · refine Ev.step (fun k => ?_) (key (wrap64 ((wrap64 (2 * z.f1)) + 2)) (by unfold aNum; rw [if_neg h0, if_neg h3, if_pos h1]; unfold wrap64; omega))
          simp only [trellisref13_Encode.l1]
          rw [if_pos (by omega), if_pos (by omega), rdL2_nat l s hs, if_pos (by omega), if_pos (by omega), rdT_nat (l[s]) i hlt, hz, if_neg h3, if_pos h1, w64n (by omega)]
        · refine Ev.step (fun k => ?_) (key (wrap64 ((wrap64 (2 * z.f1)) + 3)) (by unfold aNum; rw [if_neg h0, if_neg h3, if_neg h1]; unfold wrap64; omega))
          simp only [trellisref13_Encode.l1]
          rw [if_pos (by omega), if_pos (by omega), rdL2_nat l s hs, if_pos (by omega), if_pos (by omega), rdT_nat (l[s]) i hlt, hz, if_neg h3, if_neg h1, if_pos (by omega), w64n (by omega)]
theorem renc_l0 (l : List (List S80)) (m : List (List Int)) (hl0 : l.length ≤ 2048) (hm : m.length ≤ 2048) (hbl : ∀ x ∈ l, x.length ≤ 9223372036854775807) (hbm : ∀ x ∈ m, x.length ≤ 9223372036854775807) (hinl : ∀ x ∈ l, ∀ y ∈ x, fitsP y) (hin : ∀ x ∈ m, ∀ y ∈ x, inP y) :
    ∀ (d s : Nat), l.length - s = d → s ≤ l.length → ∀ acc : List Int, (acc ++ (rowsA (l.drop s) ++ rowsG m)).length < 140737488355328 →
    Ev (fun k => trellisref13_Encode.l0 k acc s l m) (strOfNums (acc ++ (rowsA (l.drop s) ++ rowsG m))) := by
  intro d
  induction d with
  | zero =>
    intro s hd hs acc hl
    rw [List.drop_eq_nil_of_le (by omega)] at hl ⊢
    refine Ev.step (fun k => ?_) (renc_l2 l m hm hbm hin _ 0 rfl (Nat.zero_le _) acc hl)
    simp only [trellisref13_Encode.l0]
    rw [if_neg (by omega)]
    rfl
  | succ d ih =>
    intro s hd hs acc hl
    have hlt : s < l.length := by omega
    rw [List.drop_eq_getElem_cons hlt] at hl ⊢
    unfold rowsA at hl ⊢
    rw [List.flatMap_cons, List.append_assoc] at hl ⊢
    refine Ev.step (fun k => ?_) (renc_l1 l m s hlt (hbl _ (List.getElem_mem hlt)) (hinl _ (List.getElem_mem hlt)) (rowsA (l.drop (s + 1)) ++ rowsG m) (fun acc' h' => by rw [w64n (by omega)]; exact ih (s + 1) (by omega) (by omega) acc' h') _ 0 rfl (Nat.zero_le _) acc hl)
    simp only [trellisref13_Encode.l0]
    rw [if_pos (by omega)]
    rfl

/-! ### the whole image -/
theorem fitsP_of {n : Int} {a : S80} (hn : n ≤ 2048) (h : fitsB n a = true) : fitsP a := by
  unfold fitsB at h
  unfold fitsP
  split at h
  · rename_i h1; exact .inl h1
  · split at h
    · rename_i h1
      split at h
      · simp at h; exact .inr ⟨.inl h1, by omega, by omega⟩
      · cases h
    · split at h
      · rename_i h1
        split at h
        · simp at h; exact .inr ⟨.inr h1, by omega, by omega⟩
        · cases h
      · cases h
theorem inP_of {n g : Int} (hn : n ≤ 2048) (h : inrB n g = true) : inP g := by
  unfold inrB at h
  unfold inP
  simp at h
  omega
theorem shRows_ok (n t y : Int) : ∀ (l : List (List S80)) (m : List (List Int)), l.length = m.length → shRows n t y l m = true → (∀ x ∈ l, (x.length : Int) = t ∧ x.all (fitsB n) = true) ∧ (∀ g ∈ m, (g.length : Int) = y ∧ g.all (inrB n) = true)
  | [], [], _, _ => ⟨fun x hx => (by cases hx), fun x hx => (by cases hx)⟩
  | [], g :: gs, h, _ => by simp at h
  | r :: rs, [], h, _ => by simp at h
  | r :: rs, g :: gs, hl, h => by
    simp only [shRows, Bool.and_eq_true, decide_eq_true_eq, Bool.not_eq_true', bne_eq_false_iff_eq] at h
    obtain ⟨⟨h1, h2⟩, h3, h4, h5⟩ := h
    obtain ⟨h6, h7⟩ := shRows_ok n t y rs gs (by simpa using hl) h5
    refine ⟨fun x hx => ?_, fun x hx => ?_⟩
    · rcases List.mem_cons.1 hx with rfl | hx
      · exact ⟨h1, h3⟩
      · exact h6 x hx
    · rcases List.mem_cons.1 hx with rfl | hx
      · exact ⟨h2, h4⟩
      · exact h7 x hx
theorem flat_len {α : Type} (f : α → List Int) (c : Nat) (l : List α) (h : ∀ x ∈ l, (f x).length ≤ c) : (l.flatMap f).length ≤ l.length * c := by
  induction l with
  | nil => simp
  | cons a r ih =>
    rw [List.flatMap_cons, List.length_append, List.length_cons, Nat.add_mul, Nat.one_mul]
    have h1 := h a List.mem_cons_self
    have h2 := ih (fun x hx => h x (List.mem_cons_of_mem _ hx))
    omega
theorem aE_len {a : S80} (h : fitsP a) : (aE a).length ≤ 3 := by
  refine cnt_len _ 2 ?_
  unfold fitsP at h
  unfold aNum
  split <;> (try split) <;> (try split) <;> omega
theorem gE_len {g : Int} (h : inP g) : (gE g).length ≤ 3 := by
  refine cnt_len _ 2 ?_
  unfold inP at h
  omega
def image (l : List (List S80)) (m : List (List Int)) : List Int := [84, 1] ++ cnt l.length ++ cnt (rd_L2 l 0).length ++ cnt (rd_L3 m 0).length ++ (rowsA l ++ rowsG m)
def encB (l : List (List S80)) (m : List (List Int)) : ByteArray := if shB l m = true then strOfNums (image l m) else ⟨#[]⟩
/-- What a well shaped table is. -/
structure Shp (l : List (List S80)) (m : List (List Int)) : Prop where
  l1 : 1 ≤ l.length
  l2 : l.length ≤ 2048
  ml : m.length = l.length
  t2 : (rd_L2 l 0).length ≤ 64
  y2 : (rd_L3 m 0).length ≤ 128
  ra : ∀ x ∈ l, x.length ≤ 64
  rg : ∀ x ∈ m, x.length ≤ 128
  fa : ∀ x ∈ l, ∀ y ∈ x, fitsP y
  fg : ∀ x ∈ m, ∀ y ∈ x, inP y
theorem shp_of {l : List (List S80)} {m : List (List Int)} (h : shB l m = true) : Shp l m := by
  unfold shB at h
  simp only [Bool.and_eq_true, decide_eq_true_eq] at h
  obtain ⟨⟨h1, h2, h3, h4, h5, h6⟩, h7⟩ := h
  obtain ⟨h8, h9⟩ := shRows_ok _ _ _ l m h3.symm h7
  refine ⟨h1, h2, h3, h5, h6, fun x hx => ?_, fun x hx => ?_, fun x hx y hy => ?_, fun x hx y hy => ?_⟩
  · have := (h8 x hx).1; omega
  · have := (h9 x hx).1; omega
  · exact fitsP_of (by omega) (List.all_eq_true.1 (h8 x hx).2 y hy)
  · exact inP_of (by omega) (List.all_eq_true.1 (h9 x hx).2 y hy)
theorem rowsA_len {l : List (List S80)} {m : List (List Int)} (h : Shp l m) : (rowsA l).length ≤ 393216 := by
  have := flat_len (fun r => r.flatMap aE) 192 l (fun x hx => by
    have h1 := flat_len aE 3 x (fun y hy => aE_len (h.fa x hx y hy))
    have := h.ra x hx
    omega)
  have h2 := Nat.mul_le_mul_right 192 h.l2
  unfold rowsA
  omega
theorem rowsG_len {l : List (List S80)} {m : List (List Int)} (h : Shp l m) : (rowsG m).length ≤ 786432 := by
  have := flat_len (fun r => r.flatMap gE) 384 m (fun x hx => by
    have h1 := flat_len gE 3 x (fun y hy => gE_len (h.fg x hx y hy))
    have := h.rg x hx
    omega)
  have h2 := Nat.mul_le_mul_right 384 h.l2
  rw [h.ml] at this
  unfold rowsG
  omega
theorem cnt3 {n : Nat} (h : n ≤ 2048) : (cnt n).length ≤ 3 := cnt_len n 2 (by omega)
theorem image_len {l : List (List S80)} {m : List (List Int)} (h : Shp l m) : (image l m).length < 2000000 := by
  have h1 := rowsA_len h
  have h2 := rowsG_len h
  have h3 := cnt3 h.l2
  have h4 := cnt3 (n := (rd_L2 l 0).length) (by have := h.t2; omega)
  have h5 := cnt3 (n := (rd_L3 m 0).length) (by have := h.y2; omega)
  unfold image
  simp only [List.length_append, List.length_cons, List.length_nil]
  omega
theorem enc_ev (l : List (List S80)) (m : List (List Int)) (hbl : ∀ x ∈ l, x.length ≤ 9223372036854775807) (hbm : ∀ x ∈ m, x.length ≤ 9223372036854775807) : Ev (fun k => table_Encode.f k l m) (encB l m) := by
  unfold table_Encode.f encB
  refine Ev.bind (f := fun k t => if t = true then (if 0 < (l.length : Int) then (if 0 < (m.length : Int) then ((some (([(l.length : Int), ((rd_L2 l 0).length : Int), ((rd_L3 m 0).length : Int)] : List Int) : List Int)).bind fun y234 => (table_Encode.l0 k (([84, 1] : List Int)) y234 (y234.length : Int) 0 l m)) else (none)) else (none)) else (some (⟨#[]⟩ : ByteArray))) (sh_ev l m hbl hbm) ?_
  cases hs : shB l m with
  | false => exact Ev.congr (f := fun _ => some (⟨#[]⟩ : ByteArray)) (fun k => by rw [if_neg (by decide)]) (Ev.now _)
  | true =>
    rw [if_pos rfl]
    have h := shp_of hs
    have hi := image_len h
    have h3 := cnt3 h.l2
    have h4 := cnt3 (n := (rd_L2 l 0).length) (by have := h.t2; omega)
    have h5 := cnt3 (n := (rd_L3 m 0).length) (by have := h.y2; omega)
    have hz := enc_l1 l m h.l2 (by rw [h.ml]; exact h.l2) hbl hbm h.fa h.fg _ 0 rfl (Nat.zero_le _) ([84, 1] ++ cnt l.length ++ cnt (rd_L2 l 0).length ++ cnt (rd_L3 m 0).length) (by rw [List.drop_zero]; exact Nat.lt_trans hi (by decide))
    rw [List.drop_zero] at hz
    have hk : Ev (fun k => table_Encode.l0 k [84, 1] [(l.length : Int), ((rd_L2 l 0).length : Int), ((rd_L3 m 0).length : Int)] 3 ((0 : Nat) : Int) l m) (strOfNums (image l m)) := by
      refine Ev.step (fun k => ?_) (Ev.bind (f := fun k t => table_Encode.l0 k t [(l.length : Int), ((rd_L2 l 0).length : Int), ((rd_L3 m 0).length : Int)] 3 1 l m) (count_f (acc := [84, 1]) (n := l.length) rfl (by simp; omega)) ?_)
      · simp only [table_Encode.l0]; rw [if_pos (by decide), if_pos (by decide), if_pos (by simp), show wrap64 (((0 : Nat) : Int) + 1) = 1 from by unfold wrap64; omega]; rfl
      refine Ev.step (fun k => ?_) (Ev.bind (f := fun k t => table_Encode.l0 k t [(l.length : Int), ((rd_L2 l 0).length : Int), ((rd_L3 m 0).length : Int)] 3 2 l m) (count_f (acc := [84, 1] ++ cnt l.length) (n := (rd_L2 l 0).length) rfl (by simp; omega)) ?_)
      · simp only [table_Encode.l0]; rw [if_pos (by decide), if_pos (by decide), if_pos (by simp), show wrap64 ((1 : Int) + 1) = 2 from by unfold wrap64; omega]; rfl
      refine Ev.step (fun k => ?_) (Ev.bind (f := fun k t => table_Encode.l0 k t [(l.length : Int), ((rd_L2 l 0).length : Int), ((rd_L3 m 0).length : Int)] 3 3 l m) (count_f (acc := [84, 1] ++ cnt l.length ++ cnt (rd_L2 l 0).length) (n := (rd_L3 m 0).length) rfl (by simp; omega)) ?_)
      · simp only [table_Encode.l0]; rw [if_pos (by decide), if_pos (by decide), if_pos (by simp), show wrap64 ((2 : Int) + 1) = 3 from by unfold wrap64; omega]; rfl
      refine Ev.step (fun k => ?_) hz
      simp only [table_Encode.l0]; rw [if_neg (by decide)]; rfl
    refine Ev.congr (fun k => ?_) hk
    rw [if_pos rfl, if_pos (by have := h.l1; omega), if_pos (by have := h.l1; have := h.ml; omega)]
    rfl
theorem renc_ev (l : List (List S80)) (m : List (List Int)) (hbl : ∀ x ∈ l, x.length ≤ 9223372036854775807) (hbm : ∀ x ∈ m, x.length ≤ 9223372036854775807) : Ev (fun k => trellisref13_Encode.f k l m) (encB l m) := by
  unfold trellisref13_Encode.f encB
  refine Ev.bind (f := fun k t281 => (if t281 = true then ((some (([84, 1] : List Int) : List Int)).bind fun y282 => ((trellisref13_count.f k (l.length : Int)).bind fun t285 => (if y282.length + t285.length < 140737488355328 then ((some (y282 ++ t285 : List Int)).bind fun y288 => (if 0 < (l.length : Int) then ((trellisref13_count.f k ((rd_L2 l 0).length : Int)).bind fun t292 => (if y288.length + t292.length < 140737488355328 then ((some (y288 ++ t292 : List Int)).bind fun y295 => (if 0 < (m.length : Int) then ((trellisref13_count.f k ((rd_L3 m 0).length : Int)).bind fun t299 => (if y295.length + t299.length < 140737488355328 then (trellisref13_Encode.l0 k (y295 ++ t299) 0 l m) else (none))) else (none))) else (none))) else (none))) else (none)))) else (some (⟨#[]⟩ : ByteArray)))) (rsh_ev l m hbl hbm) ?_
  cases hs : shB l m with
  | false => exact Ev.congr (f := fun _ => some (⟨#[]⟩ : ByteArray)) (fun k => by rw [if_neg (by decide)]) (Ev.now _)
  | true =>
    rw [if_pos rfl]
    have h := shp_of hs
    have hi := image_len h
    have h3 := cnt3 h.l2
    have h4 := cnt3 (n := (rd_L2 l 0).length) (by have := h.t2; omega)
    have h5 := cnt3 (n := (rd_L3 m 0).length) (by have := h.y2; omega)
    have l1 := h.l1
    have l2 := h.l2
    have ml := h.ml
    have t2 := h.t2
    have y2 := h.y2
    have hz := renc_l0 l m h.l2 (by rw [h.ml]; exact h.l2) hbl hbm h.fa h.fg _ 0 rfl (Nat.zero_le _) ([84, 1] ++ cnt l.length ++ cnt (rd_L2 l 0).length ++ cnt (rd_L3 m 0).length) (by rw [List.drop_zero]; exact Nat.lt_trans hi (by decide))
    rw [List.drop_zero] at hz
    have k3 : Ev (fun k => (trellisref13_count.f k ((rd_L3 m 0).length : Int)).bind fun t299 => (if ([84, 1] ++ cnt l.length ++ cnt (rd_L2 l 0).length).length + t299.length < 140737488355328 then (trellisref13_Encode.l0 k ([84, 1] ++ cnt l.length ++ cnt (rd_L2 l 0).length ++ t299) 0 l m) else (none))) (strOfNums (image l m)) :=
      Ev.bind (f := fun k t299 => (if ([84, 1] ++ cnt l.length ++ cnt (rd_L2 l 0).length).length + t299.length < 140737488355328 then (trellisref13_Encode.l0 k ([84, 1] ++ cnt l.length ++ cnt (rd_L2 l 0).length ++ t299) 0 l m) else (none))) (rcount_f (n := (rd_L3 m 0).length) rfl (by omega) (by omega)) (Ev.congr (fun k => by rw [if_pos (by simp; omega)]; rfl) hz)
    have k2 : Ev (fun k => (trellisref13_count.f k ((rd_L2 l 0).length : Int)).bind fun t292 => (if ([84, 1] ++ cnt l.length).length + t292.length < 140737488355328 then ((some ([84, 1] ++ cnt l.length ++ t292 : List Int)).bind fun y295 => (if 0 < (m.length : Int) then ((trellisref13_count.f k ((rd_L3 m 0).length : Int)).bind fun t299 => (if y295.length + t299.length < 140737488355328 then (trellisref13_Encode.l0 k (y295 ++ t299) 0 l m) else (none))) else (none))) else (none))) (strOfNums (image l m)) :=
      Ev.bind (f := fun k t292 => (if ([84, 1] ++ cnt l.length).length + t292.length < 140737488355328 then ((some ([84, 1] ++ cnt l.length ++ t292 : List Int)).bind fun y295 => (if 0 < (m.length : Int) then ((trellisref13_count.f k ((rd_L3 m 0).length : Int)).bind fun t299 => (if y295.length + t299.length < 140737488355328 then (trellisref13_Encode.l0 k (y295 ++ t299) 0 l m) else (none))) else (none))) else (none))) (rcount_f (n := (rd_L2 l 0).length) rfl (by omega) (by omega)) (Ev.congr (fun k => by rw [if_pos (by simp; omega)]; simp only [Option.bind_some]; rw [if_pos (by omega)]) k3)
    refine Ev.congr (f := fun k => ((trellisref13_count.f k (l.length : Int)).bind fun t285 => (if [84, 1].length + t285.length < 140737488355328 then ((some ([84, 1] ++ t285 : List Int)).bind fun y288 => (if 0 < (l.length : Int) then ((trellisref13_count.f k ((rd_L2 l 0).length : Int)).bind fun t292 => (if y288.length + t292.length < 140737488355328 then ((some (y288 ++ t292 : List Int)).bind fun y295 => (if 0 < (m.length : Int) then ((trellisref13_count.f k ((rd_L3 m 0).length : Int)).bind fun t299 => (if y295.length + t299.length < 140737488355328 then (trellisref13_Encode.l0 k (y295 ++ t299) 0 l m) else (none))) else (none))) else (none))) else (none))) else (none)))) (fun k => by rw [if_pos rfl]; rfl) ?_
    exact Ev.bind (f := fun k t285 => (if [84, 1].length + t285.length < 140737488355328 then ((some ([84, 1] ++ t285 : List Int)).bind fun y288 => (if 0 < (l.length : Int) then ((trellisref13_count.f k ((rd_L2 l 0).length : Int)).bind fun t292 => (if y288.length + t292.length < 140737488355328 then ((some (y288 ++ t292 : List Int)).bind fun y295 => (if 0 < (m.length : Int) then ((trellisref13_count.f k ((rd_L3 m 0).length : Int)).bind fun t299 => (if y295.length + t299.length < 140737488355328 then (trellisref13_Encode.l0 k (y295 ++ t299) 0 l m) else (none))) else (none))) else (none))) else (none))) else (none))) (rcount_f (n := l.length) rfl (by omega) (by omega)) (Ev.congr (fun k => by rw [if_pos (by simp; omega)]; simp only [Option.bind_some]; rw [if_pos (by omega)]) k2)
end Go.Proofs.Ytcijanmckhlpiaa
