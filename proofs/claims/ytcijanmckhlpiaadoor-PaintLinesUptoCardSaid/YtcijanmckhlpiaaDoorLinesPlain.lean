import Derived.Test.YtcijanmckhlpiaaDoorAwake
import Derived.Lib.ItoaNum
namespace Go.Proofs.YtcijanmckhlpiaaDoor
open Go.RowKit Go.Proofs.YtcijanmckhlpiaaDoorW.PrintWords Go.Proofs.YtcijanmckhlpiaaDoorW.PrintLast Go.Proofs.YtcijanmckhlpiaaDoorW.PrintMore Go.Proofs.YtcijanmckhlpiaaDoor.PPaintLines
set_option linter.unusedVariables false
set_option linter.unusedSimpArgs false
namespace Paint
theorem ba_eq {a b : ByteArray} (h : a.toList = b.toList) : a = b := by
  rw [ByteArray.toList_eq, ByteArray.toList_eq] at h
  rcases a with ⟨⟨a⟩⟩
  rcases b with ⟨⟨b⟩⟩
  simp at h
  rw [h]
theorem bq_iff {a b : ByteArray} : (a.toList == b.toList) = true ↔ a = b := ⟨fun h => ba_eq (by simpa using h), fun h => by rw [h]; simp⟩
theorem lineS_cons (s : ByteArray) (p : PD) (r : List PD) : lineS s (p :: r) = if p.1 = s then some p.2 else lineS s r := by
  show (if (p.1.toList == s.toList) = true then some p.2 else lineS s r) = _
  by_cases h : p.1 = s
  · rw [if_pos h, if_pos (bq_iff.2 h)]
  · rw [if_neg h, if_neg (fun h2 => h (bq_iff.1 h2))]
theorem lineS_append (s : ByteArray) (r : List PD) : ∀ l : List PD, lineS s (l ++ r) = match lineS s l with | some c => some c | none => lineS s r
  | [] => rfl
  | p :: l => by
    rw [List.cons_append, lineS_cons, lineS_cons]
    by_cases h : p.1 = s
    · rw [if_pos h, if_pos h]
    · rw [if_neg h, if_neg h, lineS_append s r l]
theorem lineS_mem {s c : ByteArray} : ∀ {l : List PD}, lineS s l = some c → (s, c) ∈ l
  | [], h => by cases h
  | p :: l, h => by
    rw [lineS_cons] at h
    by_cases hp : p.1 = s
    · rw [if_pos hp] at h
      cases h
      subst hp
      exact List.mem_cons_self
    · rw [if_neg hp] at h
      exact List.mem_cons_of_mem _ (lineS_mem h)
theorem lineS_none {s : ByteArray} : ∀ {l : List PD}, lineS s l = none ↔ ∀ x ∈ l, x.1 ≠ s
  | [] => by simp [lineS]
  | p :: l => by
    rw [lineS_cons]
    by_cases hp : p.1 = s
    · rw [if_pos hp]; simp [hp]
    · rw [if_neg hp, lineS_none]; simp [hp]
/-- Is the name there already? -/
def hasName (acc : List PD) (s : ByteArray) : Bool := acc.any fun y => y.1.toList == s.toList
theorem hasName_iff {acc : List PD} {s : ByteArray} : hasName acc s = true ↔ ∃ x ∈ acc, x.1 = s := by
  unfold hasName
  rw [List.any_eq_true]
  exact ⟨fun ⟨x, h, k⟩ => ⟨x, h, bq_iff.1 k⟩, fun ⟨x, h, k⟩ => ⟨x, h, bq_iff.2 k⟩⟩
/-- Of each name the first line. -/
def onceStep (acc : List PD) (x : PD) : List PD := if hasName acc x.1 = true then acc else acc ++ [x]
def onceS (l : List PD) : List PD := l.foldl onceStep []
theorem onceS_snoc (l : List PD) (x : PD) : onceS (l ++ [x]) = onceStep (onceS l) x := by unfold onceS; rw [List.foldl_append]; rfl
theorem once_line (s : ByteArray) : ∀ (l acc : List PD), lineS s (l.foldl onceStep acc) = lineS s (acc ++ l)
  | [], acc => by rw [List.append_nil]; rfl
  | x :: l, acc => by
    rw [List.foldl_cons, once_line s l]
    unfold onceStep
    by_cases h : hasName acc x.1 = true
    · rw [if_pos h, lineS_append, lineS_append, lineS_cons]
      rcases hl : lineS s acc with _ | c
      · simp only
        rw [if_neg]
        intro hx
        obtain ⟨y, hy, e⟩ := hasName_iff.1 h
        exact lineS_none.1 hl y hy (e.trans hx)
      · rfl
    · rw [if_neg h, List.append_assoc]; rfl
theorem onceS_line (s : ByteArray) (l : List PD) : lineS s (onceS l) = lineS s l := once_line s l []
theorem once_len : ∀ (l acc : List PD), (l.foldl onceStep acc).length ≤ acc.length + l.length
  | [], acc => by simp
  | x :: l, acc => by
    rw [List.foldl_cons]
    have h := once_len l (onceStep acc x)
    have h2 : (onceStep acc x).length ≤ acc.length + 1 := by unfold onceStep; split <;> simp
    simp only [List.length_cons]
    omega
theorem onceS_len (l : List PD) : (onceS l).length ≤ l.length := by unfold onceS; simpa using once_len l []
theorem once_sub : ∀ (l acc : List PD), ∀ x ∈ l.foldl onceStep acc, x ∈ acc ∨ x ∈ l
  | [], acc, x, h => .inl h
  | y :: l, acc, x, h => by
    rw [List.foldl_cons] at h
    rcases once_sub l _ x h with h | h
    · unfold onceStep at h
      split at h
      · exact .inl h
      · rcases List.mem_append.1 h with h | h
        · exact .inl h
        · exact .inr (by simp at h; simp [h])
    · exact .inr (List.mem_cons_of_mem _ h)
theorem onceS_sub {l : List PD} {x : PD} (h : x ∈ onceS l) : x ∈ l := by
  rcases once_sub l [] x h with h | h
  · cases h
  · exact h
def Uniq (l : List PD) : Prop := l.Pairwise fun a b => a.1 ≠ b.1
theorem once_uniq : ∀ (l acc : List PD), Uniq acc → Uniq (l.foldl onceStep acc)
  | [], acc, h => h
  | x :: l, acc, h => by
    rw [List.foldl_cons]
    refine once_uniq l _ ?_
    unfold onceStep
    split
    · exact h
    · rename_i hn
      refine List.pairwise_append.2 ⟨h, List.pairwise_singleton _ _, fun a ha b hb => ?_⟩
      rw [List.mem_singleton] at hb
      subst hb
      exact fun e => hn (hasName_iff.2 ⟨a, ha, e⟩)
theorem onceS_uniq (l : List PD) : Uniq (onceS l) := once_uniq l [] List.Pairwise.nil
theorem uniq_line {l : List PD} (hu : Uniq l) {x : PD} (hx : x ∈ l) : lineS x.1 l = some x.2 := by
  induction l with
  | nil => cases hx
  | cons p l ih =>
    rw [lineS_cons]
    have hu2 := List.pairwise_cons.1 hu
    rcases List.mem_cons.1 hx with rfl | h
    · rw [if_pos rfl]
    · rw [if_neg (hu2.1 x h), ih hu2.2 h]
theorem uniq_reverse {l : List PD} (hu : Uniq l) (s : ByteArray) : lineS s l.reverse = lineS s l := by
  have hur : Uniq l.reverse := List.pairwise_reverse.2 (hu.imp fun h => h.symm)
  rcases h : lineS s l with _ | c
  · exact lineS_none.2 fun x hx => lineS_none.1 h x (List.mem_reverse.1 hx)
  · exact uniq_line hur (x := (s, c)) (List.mem_reverse.2 (lineS_mem h))
/-! ### other names of classes -/
def digVal (l : List UInt8) : Nat := l.foldl (fun a c => a * 10 + (c.toNat - 48)) 0
theorem digVal_dec (u : Nat) : digVal (Lib.decDigits u) = u := by
  induction u using Nat.strongRecOn with
  | _ u ih =>
    rw [Lib.decDigits]
    split
    · simp [digVal, UInt8.toNat_ofNat]; omega
    · have h := ih (u / 10) (by omega)
      unfold digVal at h ⊢
      rw [List.foldl_append, h]
      simp [UInt8.toNat_ofNat]
      omega
def cName (i : Nat) : ByteArray := (⟨#[99]⟩ : ByteArray) ++ ⟨(Lib.itoa (i : Int)).toArray⟩
theorem cName_list (i : Nat) : (cName i).toList = 99 :: Lib.itoa (i : Int) := by
  rw [ByteArray.toList_eq]
  unfold cName
  simp
theorem itoa_dec (i : Nat) : Lib.itoa (i : Int) = Lib.decDigits i := by
  unfold Lib.itoa
  rw [if_neg (by omega), Int.toNat_natCast]
theorem cName_inj {i j : Nat} (h : cName i = cName j) : i = j := by
  have h1 := congrArg ByteArray.toList h
  rw [cName_list, cName_list, itoa_dec, itoa_dec] at h1
  injection h1 with _ h1
  rw [← digVal_dec i, ← digVal_dec j, h1]
abbrev emB : ByteArray := ⟨#[]⟩
theorem emp_list : emB.toList = [] := by rw [ByteArray.toList_eq]
theorem cName_ne (i : Nat) : cName i ≠ emB := fun h => by
  have h1 := congrArg ByteArray.toList h
  rw [cName_list, emp_list] at h1
  cases h1
/-- The first line of a class, from number i on. -/
def calGo (c : ByteArray) : Nat → List PD → ByteArray
  | _, [] => emB
  | i, x :: r => if x.2 = c ∧ c ≠ emB then cName i else calGo c (i + 1) r
def calS (l : List PD) (c : ByteArray) : ByteArray := calGo c 0 l
theorem calGo_emp : ∀ (l : List PD) (i : Nat), calGo emB i l = emB
  | [], _ => rfl
  | x :: r, i => by unfold calGo; rw [if_neg (fun h => h.2 rfl), calGo_emp r]
theorem calS_emp (l : List PD) : calS l emB = emB := calGo_emp l 0
theorem calGo_some {c : ByteArray} (hc : c ≠ emB) : ∀ (l : List PD) (i : Nat), (∃ x ∈ l, x.2 = c) → ∃ k, ∃ h : k < l.length, calGo c i l = cName (i + k) ∧ (l[k]).2 = c
  | [], i, h => by obtain ⟨x, hx, _⟩ := h; cases hx
  | x :: r, i, h => by
    unfold calGo
    by_cases hx : x.2 = c
    · rw [if_pos ⟨hx, hc⟩]
      exact ⟨0, by simp, rfl, hx⟩
    · rw [if_neg (fun h => hx h.1)]
      obtain ⟨y, hy, e⟩ := h
      rcases List.mem_cons.1 hy with rfl | hy
      · exact absurd e hx
      · obtain ⟨k, hk, e1, e2⟩ := calGo_some hc r (i + 1) ⟨y, hy, e⟩
        exact ⟨k + 1, by simpa using hk, by rw [e1]; congr 1; omega, by simpa using e2⟩
/-- The classes of which one speaks. -/
def KC (l : List PD) (c : ByteArray) : Prop := c = emB ∨ ∃ x ∈ l, x.2 = c
theorem calS_inj {l : List PD} {c d : ByteArray} (hc : KC l c) (hd : KC l d) (h : calS l c = calS l d) : c = d := by
  by_cases hc0 : c = emB
  · by_cases hd0 : d = emB
    · rw [hc0, hd0]
    · rcases hd with hd | hd
      · exact absurd hd hd0
      · obtain ⟨k, hk, e1, e2⟩ := calGo_some hd0 l 0 hd
        rw [hc0, calS_emp] at h
        exact absurd (h.trans e1).symm (cName_ne _)
  · rcases hc with hc | hc
    · exact absurd hc hc0
    · obtain ⟨k, hk, e1, e2⟩ := calGo_some hc0 l 0 hc
      by_cases hd0 : d = emB
      · rw [hd0, calS_emp] at h
        exact absurd (e1.symm.trans h) (cName_ne _)
      · rcases hd with hd | hd
        · exact absurd hd hd0
        · obtain ⟨k', hk', e3, e4⟩ := calGo_some hd0 l 0 hd
          have e5 := cName_inj (e1.symm.trans (h.trans e3))
          rw [Nat.zero_add, Nat.zero_add] at e5
          subst e5
          rw [← e2, ← e4]
def otherS (l : List PD) : List PD := l.map fun x => (x.1, calS l x.2)
theorem map_line (f : ByteArray → ByteArray) (s : ByteArray) : ∀ l : List PD, lineS s (l.map fun x => (x.1, f x.2)) = (lineS s l).map f
  | [] => rfl
  | p :: l => by
    rw [List.map_cons, lineS_cons, lineS_cons]
    by_cases h : p.1 = s
    · rw [if_pos h, if_pos h]; rfl
    · rw [if_neg h, if_neg h, map_line f s l]
theorem clsS_congr {l m : List PD} (h : ∀ s, lineS s l = lineS s m) (t : List S100) : ∀ q : List Int, clsS l t q = clsS m t q
  | [] => rfl
  | i :: r => by unfold clsS; rw [h, clsS_congr h t r]
theorem classAll_congr {l m : List PD} (h : ∀ s, lineS s l = lineS s m) (t : List S100) : classAll l t = classAll m t := by
  funext p
  unfold classAll
  rw [clsS_congr h]
theorem clsS_KC (l : List PD) (t : List S100) : ∀ q : List Int, KC l (clsS l t q)
  | [] => .inl rfl
  | i :: r => by
    unfold clsS
    rcases h : lineS (rd_T100 t i).f0 l with _ | c
    · exact clsS_KC l t r
    · exact .inr ⟨_, lineS_mem h, rfl⟩
theorem classAll_KC (l : List PD) (t : List S100) (p : Int) : KC l (classAll l t p) := by
  unfold classAll
  split
  · exact .inl rfl
  · exact clsS_KC l t _
theorem clsS_other (l : List PD) (t : List S100) : ∀ q : List Int, clsS (otherS l) t q = calS l (clsS l t q)
  | [] => (calS_emp l).symm
  | i :: r => by
    unfold clsS
    rw [show lineS (rd_T100 t i).f0 (otherS l) = (lineS (rd_T100 t i).f0 l).map (calS l) from map_line _ _ l]
    rcases h : lineS (rd_T100 t i).f0 l with _ | c
    · exact clsS_other l t r
    · rfl
theorem classAll_other (l : List PD) (t : List S100) (p : Int) : classAll (otherS l) t p = calS l (classAll l t p) := by
  unfold classAll
  split
  · exact (calS_emp l).symm
  · exact clsS_other l t _
/-! ### spans of other classes -/
def ren (l : List PD) (x : S61) : S61 := { x with f2 := calS l x.f2 }
theorem rd_map (l : List PD) (out : List S61) (i : Nat) (h : i < out.length) : rd_T61 (out.map (ren l)) (i : Int) = ren l (rd_T61 out (i : Int)) := by
  unfold rd_T61
  rw [Int.toNat_natCast, List.getD_eq_getElem?_getD, List.getD_eq_getElem?_getD, List.getElem?_map, List.getElem?_eq_getElem h]
  rfl
theorem stepS_ren (l : List PD) {c : ByteArray} (hc : KC l c) (out : List S61) (hout : ∀ x ∈ out, KC l x.f2) (a b : Int) : stepS (calS l c) (out.map (ren l)) a b = (stepS c out a b).map (ren l) ∧ ∀ x ∈ stepS c out a b, KC l x.f2 := by
  unfold stepS
  by_cases h1 : c = emB
  · rw [if_pos (bq_iff.2 h1), if_pos (bq_iff.2 (by rw [h1, calS_emp]))]
    exact ⟨rfl, hout⟩
  · have h2 : calS l c ≠ emB := fun h => h1 (calS_inj hc (.inl rfl) (h.trans (calS_emp l).symm))
    rw [if_neg (fun h => h1 (bq_iff.1 h)), if_neg (fun h => h2 (bq_iff.1 h)), List.length_map]
    by_cases h3 : 0 < out.length
    · obtain ⟨k, hk⟩ : ∃ k, out.length = k + 1 := ⟨out.length - 1, by omega⟩
      have e : (out.length : Int) - 1 = (k : Int) := by omega
      rw [e, rd_map l out k (by omega)]
      have hmem : rd_T61 out (k : Int) ∈ out := by
        unfold rd_T61
        rw [Int.toNat_natCast, List.getD_eq_getElem?_getD, List.getElem?_eq_getElem (by omega)]
        exact List.getElem_mem _
      have hkc := hout _ hmem
      have hiff : ((ren l (rd_T61 out (k : Int))).f2.toList == (calS l c).toList) = true ↔ ((rd_T61 out (k : Int)).f2.toList == c.toList) = true := by
        rw [bq_iff, bq_iff]
        exact ⟨fun h => calS_inj hkc hc h, fun h => by show calS l _ = _; rw [h]⟩
      by_cases h4 : (rd_T61 out (k : Int)).f1 = a ∧ ((rd_T61 out (k : Int)).f2.toList == c.toList) = true
      · rw [if_pos ⟨h3, h4.1, hiff.2 h4.2⟩, if_pos ⟨h3, h4⟩, List.map_set]
        refine ⟨rfl, fun x hx => ?_⟩
        rcases List.mem_or_eq_of_mem_set hx with h | h
        · exact hout x h
        · subst h; exact hkc
      · rw [if_neg (fun h => h4 ⟨h.2.1, hiff.1 h.2.2⟩), if_neg (fun h => h4 h.2), List.map_append]
        refine ⟨rfl, fun x hx => ?_⟩
        rcases List.mem_append.1 hx with h | h
        · exact hout x h
        · rw [List.mem_singleton] at h; subst h; exact hc
    · rw [if_neg (fun h => h3 h.1), if_neg (fun h => h3 h.1), List.map_append]
      refine ⟨rfl, fun x hx => ?_⟩
      rcases List.mem_append.1 hx with h | h
      · exact hout x h
      · rw [List.mem_singleton] at h; subst h; exact hc
theorem spansGo_ren (l : List PD) (cls : Int → ByteArray) (hc : ∀ p, KC l (cls p)) : ∀ (P : List Int) (out : List S61), (∀ x ∈ out, KC l x.f2) → spansGo (fun p => calS l (cls p)) (out.map (ren l)) P = (spansGo cls out P).map (ren l)
  | [], out, _ => rfl
  | [_], out, _ => rfl
  | a :: b :: r, out, h => by
    show spansGo _ (stepS (calS l (cls a)) (out.map (ren l)) a b) (b :: r) = (spansGo cls (stepS (cls a) out a b) (b :: r)).map (ren l)
    obtain ⟨e, h2⟩ := stepS_ren l (hc a) out h a b
    rw [e]
    exact spansGo_ren l cls hc (b :: r) _ h2
theorem spansS_other (l : List PD) (t : List S100) (P : List Int) : spansS (otherS l) t P = (spansS l t P).map (ren l) := by
  unfold spansS
  rw [show classAll (otherS l) t = fun p => calS l (classAll l t p) from funext (classAll_other l t)]
  exact spansGo_ren l _ (classAll_KC l t) P [] (by simp)
theorem spansS_congr {l m : List PD} (h : ∀ s, lineS s l = lineS s m) (t : List S100) (P : List Int) : spansS l t P = spansS m t P := by
  unfold spansS
  rw [classAll_congr h]
end Paint
end Go.Proofs.YtcijanmckhlpiaaDoor
