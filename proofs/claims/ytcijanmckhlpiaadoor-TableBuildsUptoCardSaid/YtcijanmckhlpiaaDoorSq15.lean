-- Texts of this seat, cut to what is used and merged (by shake.py).
import Derived.Test.YtcijanmckhlpiaaDoorSq4
import Derived.Test.YtcijanmckhlpiaaDoorSq5
import Derived.Test.YtcijanmckhlpiaaDoorSq6
import Derived.Test.YtcijanmckhlpiaaDoorSq7
import Derived.Test.YtcijanmckhlpiaaDoorSq12
import Derived.Test.YtcijanmckhlpiaaDoorSq13
import Derived.Test.YtcijanmckhlpiaaDoorSq14
import Derived.Deep.QuietTactic
set_option linter.unusedVariables false
set_option linter.unusedSimpArgs false
namespace Go.Proofs.YtcijanmckhlpiaaDoor
open Go.RowKit Go.Proofs.YtcijanmckhlpiaaDoor.PTableBuilds
namespace Doc
open Bld
inductive Van (T : Nat) (ps : List S77) : Nat → Prop
 | mk (p : S77) (hp : p ∈ ps) (h0 : 0 ≤ p.f0) (h : ∀ r ∈ p.f1, Van T ps r.f0.toNat) : Van T ps (T + p.f0.toNat)
def Head (T : Nat) (ps : List S77) (row : List S110) (x : Nat) : Prop := ∃ u r v, row = u ++ r :: v ∧ (∀ q ∈ u, Van T ps q.f0.toNat) ∧ r.f0.toNat = x
inductive Lead (T : Nat) (ps : List S77) : Nat → Nat → Prop
 | refl (x : Nat) : Lead T ps x x
 | step (p : S77) (hp : p ∈ ps) (h0 : 0 ≤ p.f0) (x y : Nat) (hh : Head T ps p.f1 x) (h : Lead T ps x y) : Lead T ps (T + p.f0.toNat) y
theorem ofS_van (F : List Nat) (V : List Bool) : ∀ (l : List S110) (out : Nat), (ofS F V out l).2 = true ↔ ∀ r ∈ l, van V r.f0.toNat = true
 | [], out => by simp [ofS]
 | r :: l, out => by
  unfold ofS; by_cases h : van V r.f0.toNat = true
  ·rw [if_pos h, ofS_van F V l]; simp [h]
  ·rw [if_neg h]; constructor
   ·intro e; cases e
   ·intro e; exact absurd (e r (by simp)) h
def RowBit (F : List Nat) (V : List Bool) (l : List S110) (t : Nat) : Prop := ∃ u r v, l = u ++ r :: v ∧ (∀ q ∈ u, van V q.f0.toNat = true) ∧ (fst F r.f0.toNat).testBit t = true
theorem rowBit_cons (F : List Nat) (V : List Bool) (r : S110) (l : List S110) (t : Nat) : RowBit F V (r :: l) t ↔ (fst F r.f0.toNat).testBit t = true ∨ (van V r.f0.toNat = true ∧ RowBit F V l t) := by
 constructor
 ·rintro ⟨u, q, v, e, hu, hq⟩; cases u with
  | nil => injection e with e1 e2; subst e1; exact .inl hq
  | cons a u => injection e with e1 e2; subst e1; exact .inr ⟨hu _ (by simp), u, q, v, e2, fun x hx => hu x (by simp [hx]), hq⟩
 ·rintro (h | ⟨h, u, q, v, e, hu, hq⟩)
  ·exact ⟨[], r, l, rfl, fun q hq => (by cases hq), h⟩
  ·exact ⟨r :: u, q, v, by rw [e]; rfl, fun x hx => (by rcases List.mem_cons.1 hx with rfl | hx; exact h; exact hu x hx), hq⟩
theorem ofS_bit (F : List Nat) (V : List Bool) (t : Nat) : ∀ (l : List S110) (out : Nat), (ofS F V out l).1.testBit t = true ↔ out.testBit t = true ∨ RowBit F V l t
 | [], out => by
  constructor
  ·intro h; exact .inl h
  ·rintro (h | ⟨u, r, v, e, _⟩)
   ·exact h
   ·cases u <;> cases e
 | r :: l, out => by
  rw [rowBit_cons]; unfold ofS; by_cases h : van V r.f0.toNat = true
  ·rw [if_pos h, ofS_bit F V t l, Nat.testBit_or, Bool.or_eq_true, or_assoc]; simp [h]
  ·rw [if_neg h, Nat.testBit_or, Bool.or_eq_true]; simp [h]
theorem fst_set (F : List Nat) (k j x : Nat) : fst (F.set k x) j = if k = j ∧ k < F.length then x else fst F j := by
 unfold fst; rw [List.getD_eq_getElem?_getD, List.getD_eq_getElem?_getD, List.getElem?_set]; by_cases h : k = j
 ·subst h; by_cases h2 : k < F.length
  ·rw [if_pos rfl, if_pos h2, if_pos ⟨rfl, h2⟩]; rfl
  ·rw [if_pos rfl, if_neg h2, if_neg (fun e => h2 e.2), List.getElem?_eq_none (by omega)]
 ·rw [if_neg h, if_neg (fun e => h e.1)]
theorem van_set (V : List Bool) (k j : Nat) (x : Bool) : van (V.set k x) j = if k = j ∧ k < V.length then x else van V j := by
 unfold van; rw [List.getD_eq_getElem?_getD, List.getD_eq_getElem?_getD, List.getElem?_set]; by_cases h : k = j
 ·subst h; by_cases h2 : k < V.length
  ·rw [if_pos rfl, if_pos h2, if_pos ⟨rfl, h2⟩]; rfl
  ·rw [if_pos rfl, if_neg h2, if_neg (fun e => h2 e.2), List.getElem?_eq_none (by omega)]
 ·rw [if_neg h, if_neg (fun e => h e.1)]
section
variable {T : Nat} {ps : List S77}
theorem head_of {F : List Nat} {V : List Bool} (hv : ∀ k, van V k = true → Van T ps k) {l : List S110} {t : Nat} (h : RowBit F V l t) : ∃ x, Head T ps l x ∧ (fst F x).testBit t = true := by
 obtain ⟨u, r, v, e, hu, hr⟩ := h; exact ⟨_, ⟨u, r, v, e, fun q hq => hv _ (hu q hq), rfl⟩, hr⟩
structure Snd (T : Nat) (ps : List S77) (s : FV) : Prop where
 van : ∀ k, van s.2 k = true → Van T ps k
 fst : ∀ k t, (fst s.1 k).testBit t = true → t < T ∧ Lead T ps k t
theorem Snd.step {s : FV} (h : Snd T ps s) {p : S77} (hp : p ∈ ps) : Snd T ps (stepP T s p) := by
 unfold stepP; by_cases h0 : p.f0 < 0
 ·rw [if_pos h0]; exact h
 ·rw [if_neg h0]; refine ⟨fun k hk => ?_, fun k t hk => ?_⟩
  ·rw [van_set] at hk; by_cases hc : T + p.f0.toNat = k ∧ T + p.f0.toNat < s.2.length
   ·rw [if_pos hc, Bool.or_eq_true, ofS_van] at hk; rcases hk with hk | hk
    ·rw [← hc.1]; exact h.van _ hk
    ·rw [← hc.1]; exact .mk p hp (by omega) (fun r hr => h.van _ (hk r hr))
   ·rw [if_neg hc] at hk; exact h.van _ hk
  ·rw [fst_set] at hk; by_cases hc : T + p.f0.toNat = k ∧ T + p.f0.toNat < s.1.length
   ·rw [if_pos hc, Nat.testBit_or, Bool.or_eq_true, ofS_bit] at hk; rcases hk with hk | hk | hk
    ·rw [← hc.1]; exact h.fst _ _ hk
    ·rw [Nat.zero_testBit] at hk; cases hk
    ·obtain ⟨x, hx, hb⟩ := head_of h.van hk; obtain ⟨h1, h2⟩ := h.fst _ _ hb; exact ⟨h1, by rw [← hc.1]; exact .step p hp (by omega) x t hx h2⟩
   ·rw [if_neg hc] at hk; exact h.fst _ _ hk
theorem Snd.pass : ∀ (qs : List S77) {s : FV}, Snd T ps s → (∀ p ∈ qs, p ∈ ps) → Snd T ps (passP T qs s)
 | [], s, h, _ => h
 | p :: qs, s, h, hq => Snd.pass qs (h.step (hq p (by simp))) (fun q hx => hq q (by simp [hx]))
theorem fst_init (n k : Nat) : fst (initF n) k = if k < n ∧ k < 192 then 2 ^ k else 0 := by
 unfold fst initF; rw [List.getD_eq_getElem?_getD, List.getElem?_map]; by_cases h : k < 192
 ·rw [List.getElem?_range h]; by_cases h2 : k < n
  ·rw [if_pos ⟨h2, h⟩]; simp [h2]
  ·rw [if_neg (fun e => h2 e.1)]; simp [h2]
 ·rw [List.getElem?_eq_none (by simp; omega), if_neg (fun e => h e.2)]; rfl
theorem van_none (k : Nat) : van noV k = false := by
 unfold van noV; rw [List.getD_eq_getElem?_getD, List.getElem?_replicate]
 split <;> rfl
theorem Snd.init : Snd T ps (initF T, noV) := by
 refine ⟨fun k hk => ?_, fun k t hk => ?_⟩
 ·rw [show (Bld.van noV k) = false from van_none k] at hk; cases hk
 ·rw [show Bld.fst (initF T, noV).1 k = Bld.fst (initF T) k from rfl, fst_init] at hk; by_cases h : k < T ∧ k < 192
  ·rw [if_pos h, Nat.testBit_two_pow, decide_eq_true_eq] at hk; subst hk; exact ⟨h.1, .refl k⟩
  ·rw [if_neg h, Nat.zero_testBit] at hk; cases hk
def Own (T : Nat) (s : FV) : Prop := ∀ k, k < T → k < 192 → (fst s.1 k).testBit k = true
theorem Own.step {s : FV} (h : Own T s) (p : S77) : Own T (stepP T s p) := by
 unfold stepP; by_cases h0 : p.f0 < 0
 ·rw [if_pos h0]; exact h
 ·rw [if_neg h0]; intro k hk hl; show (fst (s.1.set _ _) k).testBit k = true; rw [fst_set, if_neg (by omega)]
  exact h k hk hl
theorem Own.pass : ∀ (qs : List S77) {s : FV}, Own T s → Own T (passP T qs s)
 | [], s, h => h
 | p :: qs, s, h => Own.pass qs (h.step p)
theorem solveN_all : ∀ (k : Nat) (s r : FV), Fit s → Snd T ps s → Own T s → solveN T ps k s = some r → Fit r ∧ Snd T ps r ∧ Own T r ∧ passP T ps r = r
 | 0, s, r, _, _, _, h => by simp [solveN] at h
 | k + 1, s, r, hf, hs, ho, h => by
  unfold solveN at h; by_cases he : passP T ps s = s
  ·rw [if_pos he] at h; cases h; exact ⟨hf, hs, ho, he⟩
  ·rw [if_neg he] at h; exact solveN_all k _ r (passP_fit ps hf) (hs.pass ps (fun _ h => h)) (ho.pass ps) h
theorem pass_fix : ∀ (qs : List S77) {s : FV}, Fit s → passP T qs s = s → ∀ p ∈ qs, stepP T s p = s
 | q :: qs, s, hf, h, p, hp => by
  have e : passP T (q :: qs) s = passP T qs (stepP T s q) := rfl; rw [e] at h; have h1 : stepP T s q = s := by
   apply Classical.byContradiction; intro hne; have a := (stepP_mu (T := T) hf q).2 hne; have b := (passP_mu (T := T) qs (hf.step (T := T) q)).1; rw [h] at b; omega
  rcases List.mem_cons.1 hp with rfl | hp
  ·exact h1
  ·rw [h1] at h; exact pass_fix qs hf h p hp
theorem step_fix {s : FV} (hf : Fit s) {p : S77} (h0 : 0 ≤ p.f0) (hk : T + p.f0.toNat < 192) (h : stepP T s p = s) :
  ((∀ r ∈ p.f1, van s.2 r.f0.toNat = true) → van s.2 (T + p.f0.toNat) = true) ∧ ∀ t, RowBit s.1 s.2 p.f1 t → (fst s.1 (T + p.f0.toNat)).testBit t = true := by
 unfold stepP at h; rw [if_neg (by omega)] at h
 have e1 := congrArg (fun x : FV => fst x.1 (T + p.f0.toNat)) h
 have e2 := congrArg (fun x : FV => van x.2 (T + p.f0.toNat)) h
 simp only at e1 e2; rw [fst_set, if_pos ⟨rfl, by rw [hf.len]; exact hk⟩] at e1
 rw [van_set, if_pos ⟨rfl, by rw [hf.lenV]; exact hk⟩] at e2
 refine ⟨fun hr => ?_, fun t ht => ?_⟩
 ·rw [← e2, (ofS_van _ _ _ _).2 hr, Bool.or_true]
 ·rw [← e1, Nat.testBit_or, (ofS_bit _ _ _ _ _).2 (.inr ht), Bool.or_true]
structure Says (T : Nat) (ps : List S77) (s : FV) : Prop where
 van : ∀ k, Bld.van s.2 k = true ↔ Van T ps k
 fst : ∀ k t, (Bld.fst s.1 k).testBit t = true ↔ t < T ∧ Lead T ps k t
theorem says_of {k : Nat} {s : FV} (hT : T ≤ 64) (hk : ∀ p ∈ ps, T + p.f0.toNat < 192) (h : solveN T ps k (initF T, noV) = some s) : Says T ps s := by
 obtain ⟨hf, hs, ho, hx⟩ := solveN_all k _ s (Fit.init T hT) Snd.init (fun k hk hl => by
  show (Bld.fst (initF T) k).testBit k = true; rw [fst_init, if_pos ⟨hk, hl⟩, Nat.testBit_two_pow_self]) h
 have hfix := pass_fix ps hf hx; have hv : ∀ k, Van T ps k → Bld.van s.2 k = true := by
  intro k h
  induction h with
  | mk p hp h0 _ ih => exact (step_fix hf h0 (hk p hp) (hfix p hp)).1 ih
 refine ⟨fun k => ⟨hs.van k, hv k⟩, fun k t => ⟨hs.fst k t, fun ⟨ht, hl⟩ => ?_⟩⟩
 have key : ∀ x y, Lead T ps x y → (Bld.fst s.1 y).testBit t = true → (Bld.fst s.1 x).testBit t = true := by
  intro x y h
  induction h with
  | refl x => exact id
  | step p hp h0 x y hh h ih =>
   intro hb; obtain ⟨u, r, v, e, hu, hr⟩ := hh; exact (step_fix hf h0 (hk p hp) (hfix p hp)).2 t ⟨u, r, v, e, fun q hq => hv _ (hu q hq), by rw [hr]; exact ih hb⟩
 exact key k t hl (ho t ht (by omega))
end
def goesS (K : List Bool) (row : List S110) : Bool := row.all fun r => van K r.f0.toNat
def stepN (T : Nat) (K : List Bool) (p : S77) : List Bool := if 0 ≤ p.f0 ∧ goesS K p.f1 = true then K.set (T + p.f0.toNat) true else K
def roundN (T : Nat) (ps : List S77) (K : List Bool) : List Bool := ps.foldl (stepN T) K
def nullN (T : Nat) (ps : List S77) : Nat → List Bool → List Bool
 | 0, K => K
 | k + 1, K => nullN T ps k (roundN T ps K)
theorem goesS_iff (K : List Bool) (row : List S110) : goesS K row = true ↔ ∀ r ∈ row, van K r.f0.toNat = true := by
 unfold goesS; rw [List.all_eq_true]
section
variable {T : Nat} {ps : List S77}
theorem stepN_len (K : List Bool) (p : S77) : (stepN T K p).length = K.length := by
 unfold stepN
 split
 ·rw [List.length_set]
 ·rfl
theorem stepN_room (K : List Bool) (p : S77) : roomV ((stepN T K p).drop T) ≤ roomV (K.drop T) ∧ (stepN T K p ≠ K → roomV ((stepN T K p).drop T) < roomV (K.drop T)) := by
 unfold stepN; by_cases h : 0 ≤ p.f0 ∧ goesS K p.f1 = true
 ·rw [if_pos h]; have e : (K.set (T + p.f0.toNat) true).drop T = (K.drop T).set p.f0.toNat (van (K.drop T) p.f0.toNat || true) := by
   rw [List.drop_set, if_neg (by omega), Bool.or_true, Nat.add_sub_cancel_left]
  rw [e]; have hr := roomV_set (K.drop T) p.f0.toNat true; refine ⟨hr.1, fun hne => hr.2 (fun he => hne ?_)⟩
  rw [Bool.or_true] at he; apply List.ext_getElem?; intro j; rw [List.getElem?_set]; by_cases hj : T + p.f0.toNat = j
  ·subst hj; rw [if_pos rfl]; by_cases hl : T + p.f0.toNat < K.length
   ·rw [if_pos hl]; have e2 := congrArg (fun l => l[p.f0.toNat]?) he
    rw [List.getElem?_set_self (by rw [List.length_drop]; omega), List.getElem?_drop] at e2
    exact e2
   ·rw [if_neg hl, List.getElem?_eq_none (by omega)]
  ·rw [if_neg hj]
 ·rw [if_neg h]; exact ⟨Nat.le_refl _, fun e => absurd rfl e⟩
theorem roundN_len : ∀ (qs : List S77) (K : List Bool), (roundN T qs K).length = K.length
 | [], K => rfl
 | p :: qs, K => (roundN_len qs (stepN T K p)).trans (stepN_len K p)
theorem roundN_room : ∀ (qs : List S77) (K : List Bool), roomV ((roundN T qs K).drop T) ≤ roomV (K.drop T) ∧ (roundN T qs K ≠ K → roomV ((roundN T qs K).drop T) < roomV (K.drop T))
 | [], K => ⟨Nat.le_refl _, fun e => absurd rfl e⟩
 | p :: qs, K => by
  have a := stepN_room (T := T) K p; have b := roundN_room qs (stepN T K p); have e : roundN T (p :: qs) K = roundN T qs (stepN T K p) := rfl; rw [e]; refine ⟨Nat.le_trans b.1 a.1, fun hne => ?_⟩
  by_cases h : stepN T K p = K
  ·rw [h] at b hne ⊢; exact b.2 hne
  ·exact Nat.lt_of_le_of_lt b.1 (a.2 h)
theorem nullN_same : ∀ (j : Nat) {K : List Bool}, roundN T ps K = K → nullN T ps j K = K
 | 0, K, _ => rfl
 | j + 1, K, h => by
  unfold nullN; rw [h]; exact nullN_same j h
theorem nullN_fix : ∀ (j : Nat) (K : List Bool), roomV (K.drop T) ≤ j → roundN T ps (nullN T ps j K) = nullN T ps j K
 | 0, K, h => by
  show roundN T ps K = K; apply Classical.byContradiction; intro hne; have := (roundN_room ps K).2 hne; omega
 | j + 1, K, h => by
  by_cases he : roundN T ps K = K
  ·rw [nullN_same (j + 1) he]; exact he
  ·show roundN T ps (nullN T ps j (roundN T ps K)) = nullN T ps j (roundN T ps K); exact nullN_fix j _ (by have := (roundN_room ps K).2 he; omega)
theorem nullN_len : ∀ (j : Nat) (K : List Bool), (nullN T ps j K).length = K.length
 | 0, K => rfl
 | j + 1, K => (nullN_len j _).trans (roundN_len ps K)
theorem stepN_sound {K : List Bool} (h : ∀ k, van K k = true → Van T ps k) {p : S77} (hp : p ∈ ps) : ∀ k, van (stepN T K p) k = true → Van T ps k := by
 intro k hk; unfold stepN at hk; by_cases hc : 0 ≤ p.f0 ∧ goesS K p.f1 = true
 ·rw [if_pos hc, van_set] at hk; by_cases h2 : T + p.f0.toNat = k ∧ T + p.f0.toNat < K.length
  ·rw [← h2.1]; exact .mk p hp hc.1 (fun r hr => h _ ((goesS_iff K p.f1).1 hc.2 r hr))
  ·rw [if_neg h2] at hk; exact h k hk
 ·rw [if_neg hc] at hk; exact h k hk
theorem roundN_sound : ∀ (qs : List S77) {K : List Bool}, (∀ p ∈ qs, p ∈ ps) → (∀ k, van K k = true → Van T ps k) → ∀ k, van (roundN T qs K) k = true → Van T ps k
 | [], K, _, h => h
 | p :: qs, K, hq, h => roundN_sound qs (fun q hx => hq q (by simp [hx])) (stepN_sound h (hq p (by simp)))
theorem nullN_sound : ∀ (j : Nat) {K : List Bool}, (∀ k, van K k = true → Van T ps k) → ∀ k, van (nullN T ps j K) k = true → Van T ps k
 | 0, K, h => h
 | j + 1, K, h => nullN_sound j (roundN_sound ps (fun _ h => h) h)
theorem roundN_fix : ∀ (qs : List S77) {K : List Bool}, roundN T qs K = K → ∀ p ∈ qs, stepN T K p = K
 | q :: qs, K, h, p, hp => by
  have e : roundN T (q :: qs) K = roundN T qs (stepN T K q) := rfl; rw [e] at h; have h1 : stepN T K q = K := by
   apply Classical.byContradiction; intro hne; have a := (stepN_room (T := T) K q).2 hne; have b := (roundN_room (T := T) qs (stepN T K q)).1; rw [h] at b; omega
  rcases List.mem_cons.1 hp with rfl | hp
  ·exact h1
  ·rw [h1] at h; exact roundN_fix qs h p hp
theorem null_says {M : Nat} (hM : ∀ p ∈ ps, p.f0 < (M : Int)) (k : Nat) : van (nullN T ps M (List.replicate (T + M) false)) k = true ↔ Van T ps k := by
 have h0 : ∀ k, van (List.replicate (T + M) false) k = true → Van T ps k := fun k hk => by
  unfold van at hk; rw [List.getD_eq_getElem?_getD, List.getElem?_replicate] at hk
  split at hk <;> simp at hk
 have hroom : roomV ((List.replicate (T + M) false).drop T) ≤ M := by
  rw [List.drop_replicate, Nat.add_sub_cancel_left]; unfold roomV; have := List.countP_le_length (p := fun b : Bool => !b) (l := List.replicate M false)
  rw [List.length_replicate] at this; exact this
 have hf := nullN_fix (ps := ps) M (List.replicate (T + M) false) hroom; have hl : (nullN T ps M (List.replicate (T + M) false)).length = T + M := by rw [nullN_len, List.length_replicate]
 refine ⟨nullN_sound M h0 k, fun h => ?_⟩
 generalize nullN T ps M (List.replicate (T + M) false) = K at *
 induction h with
 | mk p hp hp0 _ ih =>
  have he := roundN_fix ps hf p hp; unfold stepN at he; rw [if_pos ⟨hp0, (goesS_iff K p.f1).2 ih⟩] at he; have := hM p hp; rw [← he, van_set, if_pos ⟨rfl, by omega⟩]
end
end Doc
end Go.Proofs.YtcijanmckhlpiaaDoor
namespace Go.Proofs.YtcijanmckhlpiaaDoor
open Go.RowKit Go.Proofs.YtcijanmckhlpiaaDoorW.PrintWords Go.Proofs.YtcijanmckhlpiaaDoorW.PrintLast Go.Proofs.YtcijanmckhlpiaaDoorW.PrintMore Go.Proofs.YtcijanmckhlpiaaDoor.PTableBuilds
namespace Doc
open Bld
theorem goes_l0 (K : List Bool) (row : List S110) (hr : ∀ r ∈ row, 0 ≤ r.f0 ∧ r.f0 < (K.length : Int)) (hl : row.length ≤ 9223372036854775806) : ∀ (d i : Nat), row.length - i = d → i ≤ row.length → Ev (fun k => trellisref11_goes.l0 k K row (i : Int)) ((row.drop i).all fun r => van K r.f0.toNat) := by
 intro d
 induction d with
 | zero =>
  intro i hd hi; rw [List.drop_eq_nil_of_le (by omega)]
  refine Ev.step (f := fun _ => some true) (fun k => ?_) (Ev.now _)
  simp only [trellisref11_goes.l0]; rw [if_neg (by omega)]
 | succ d ih =>
  intro i hd hi; have hlt : i < row.length := by omega
  have hm := hr _ (List.getElem_mem hlt); have h := ih (i + 1) (by omega) (by omega)
  rw [List.drop_eq_getElem_cons hlt, List.all_cons]; by_cases hv : van K (row[i]).f0.toNat = true
  ·rw [hv, Bool.true_and]; refine Ev.step (fun k => ?_) h
   simp only [trellisref11_goes.l0]; rw [if_pos (by omega), if_pos (by omega), rdT110_nat row i hlt, if_pos hm.1, if_pos hm.2, if_pos (by exact hv), w64s (by omega)]
  ·rw [show van K (row[i]).f0.toNat = false by simpa using hv, Bool.false_and]
   refine Ev.step (f := fun _ => some false) (fun k => ?_) (Ev.now _)
   simp only [trellisref11_goes.l0]; rw [if_pos (by omega), if_pos (by omega), rdT110_nat row i hlt, if_pos hm.1, if_pos hm.2, if_neg (by exact hv)]
theorem goes_ev (K : List Bool) (row : List S110) (hr : ∀ r ∈ row, 0 ≤ r.f0 ∧ r.f0 < (K.length : Int)) (hl : row.length ≤ 9223372036854775806) : Ev (fun k => trellisref11_goes.f k K row) (goesS K row) := goes_l0 K row hr hl _ 0 rfl (Nat.zero_le _)
theorem row_l0 (l : List S112) (m : List S115) (ps : List S77) (row : List S110) (hT : l.length ≤ 64) (hM : m.length ≤ 128) (hr : ∀ r ∈ row, 0 ≤ r.f0 ∧ r.f0 < (l.length : Int) + m.length) (hl : row.length ≤ 9223372036854775806) : ∀ (d i : Nat), row.length - i = d → i ≤ row.length → Ev (fun k => trellisref11_Row.l0 k row (i : Int) l m ps) true := by
 intro d
 induction d with
 | zero =>
  intro i hd hi; refine Ev.step (f := fun _ => some true) (fun k => ?_) (Ev.now _)
  simp only [trellisref11_Row.l0]; rw [if_neg (by omega)]
 | succ d ih =>
  intro i hd hi; have hlt : i < row.length := by omega
  have hm := hr _ (List.getElem_mem hlt); have hw : wrap64 ((l.length : Int) + (m.length : Int)) = (l.length : Int) + m.length := by unfold wrap64; omega
  refine Ev.step (fun k => ?_) (ih (i + 1) (by omega) (by omega))
  simp only [trellisref11_Row.l0]; rw [if_pos (by omega), if_pos (by omega), rdT110_nat row i hlt, if_neg (by omega), hw, if_neg (by omega), w64s (by omega)]
theorem sound_l0 (l : List S112) (m : List S115) (ps : List S77) (hf : Bld.Fair l.length m.length ps) : ∀ (d i : Nat), ps.length - i = d → i ≤ ps.length → Ev (fun k => trellisref11_Sound.l0 k (i : Int) l m ps) true := by
 have hlen := hf.len; intro d
 induction d with
 | zero =>
  intro i hd hi; refine Ev.step (f := fun _ => some true) (fun k => ?_) (Ev.now _)
  simp only [trellisref11_Sound.l0]; rw [if_neg (by omega)]
 | succ d ih =>
  intro i hd hi; have hlt : i < ps.length := by omega
  have hp := List.getElem_mem hlt; have h1 := hf.lhs _ hp; have h2 := hf.row hp; have hR : Ev (fun k => trellisref11_Row.f k l m ps (ps[i]).f1) true := row_l0 l m ps _ hf.t64 hf.m128 (hf.rhs _ hp) (by omega) _ 0 rfl (Nat.zero_le _)
  refine Ev.step (f := fun k => (trellisref11_Row.f k l m ps (ps[i]).f1).bind fun t247 => if t247 = true then trellisref11_Sound.l0 k ((i + 1 : Nat) : Int) l m ps else some false) (fun k => ?_) ?_
  ·simp only [trellisref11_Sound.l0]; rw [if_pos (by omega), if_pos (by omega), rdT77_nat ps i hlt, if_neg (by omega), if_neg (by omega), w64s (by omega)]
  ·refine Ev.bind hR ?_; simp only [if_pos]; exact ih (i + 1) (by omega) (by omega)
theorem sound_ev (l : List S112) (m : List S115) (ps : List S77) (hf : Bld.Fair l.length m.length ps) : Ev (fun k => trellisref11_Sound.f k l m ps) true := by
 have h1 := hf.t1; have h2 := hf.t64; have h3 := hf.m128; refine Ev.congr (f := fun k => trellisref11_Sound.j0 k false l m ps) (fun k => ?_) ?_
 ·unfold trellisref11_Sound.f; rw [if_neg (by omega), if_neg (by omega), decide_eq_false (by omega)]
 ·refine Ev.step (fun k => ?_) (sound_l0 l m ps hf _ 0 rfl (Nat.zero_le _))
  simp only [trellisref11_Sound.j0]; rw [if_neg (by decide)]
  rfl
def bl (K : List Bool) : Array Value := (K.map Value.bool).toArray
theorem bl_get {K : List Bool} {k : Nat} (hk : k < K.length) : (bl K)[k]? = some (.bool (van K k)) := by
 unfold bl van; rw [List.getElem?_toArray, List.getElem?_map, List.getD_eq_getElem?_getD, List.getElem?_eq_getElem hk]; rfl
theorem bl_set (K : List Bool) (k : Nat) (b : Bool) : (bl K).setIfInBounds k (.bool b) = bl (K.set k b) := by
 unfold bl; rw [List.setIfInBounds_toArray, List.map_set]
theorem bl_C {w : World} {b : Nat} {K : List Bool} (h : w.heap[b]? = some (.cells (bl K) 4 (0, 0))) (hk : K.length ≤ 9223372036854775807) : Kd.bool.C w (some ⟨b, 0, none⟩) K.length K :=
 C_cells K hk (fun j hj => by
  rw [Nat.zero_add]; refine (zaa h j).trans ?_; unfold bl; rw [List.getElem?_toArray, List.getElem?_map, List.getElem?_eq_getElem hj]; rfl)
theorem bl_new (n : Nat) : Array.replicate n (Value.bool false) = bl (List.replicate n false) := by
 unfold bl; rw [List.map_replicate, List.toArray_replicate]
theorem info4 : (Tryd.prog.info? 4).map (fun i => (i.zero, i.size, i.bytes)) = some (some (.bool false), 1, 1) := by kernel_rfl
set_option maxRecDepth 100000 in
set_option maxHeartbeats 4000000 in
theorem nullable_any (A : Option Addr) (c : Nat) (l : List S112) (B : Option Addr) (d : Nat) (m : List S115) (C : Option Addr) (e : Nat) (ps : List S77) (w : World) (hg : GR w A c l B d m C e ps) (hf : Bld.Fair l.length m.length ps) :
  Calls Tryd.prog 103 #[.agg #[.slice A l.length c, .slice B m.length d, .slice C ps.length e]] w fun e' w' => ∃ b, e' = .returned (.slice (some ⟨b, 0, none⟩) (l.length + m.length) (l.length + m.length)) ∧ w.heap.size ≤ b ∧ Below w.heap.size w w' ∧ w'.heap[b]? = some (.cells (bl (nullN l.length ps m.length (List.replicate (l.length + m.length) false))) 4 (0, 0)) := by
 obtain ⟨ks, hks⟩ := (sound_ev l m ps hf).rounds; have h1 := hf.t1; have h2 := hf.t64; have h3 := hf.m128; have hlen := hf.len; have HKS := Lib.hid hks; have HG := Lib.hid hg; have HF := Lib.hid hf; have HX0 := Lib.hid (zau w (.cells #[.slice A l.length c, .slice B m.length d, .slice C ps.length e] 51)); have hb0 := zac (Below.refl w.heap.size w) (.cells #[.slice A l.length c, .slice B m.length d, .slice C ps.length e] 51); have HB0 := Lib.hid hb0; have HS0 := Lib.hid (hg.below hb0); obtain ⟨K, hK⟩ : ∃ K, K = l.length + m.length := ⟨_, rfl⟩; obtain ⟨KF, hKF⟩ : ∃ KF, KF = nullN l.length ps m.length (List.replicate K false) := ⟨_, rfl⟩; have HKE := Lib.hid hK; have HKF := Lib.hid hKF; rw [← hK, ← hKF]; have hK192 : K ≤ 192 := by omega
 have hw0 : IntKind.i64.wrap ((l.length : Int) + (m.length : Int)) = (K : Int) := by rw [IntWalk.i64_in _ (by omega)]; omega
 have hmk : ∀ W : World, (Instr.makeSlice 226 (.int .i64 (K : Int)) (.int .i64 (K : Int))).run Tryd.prog W = .ok (.slice (some ⟨W.heap.size, 0, none⟩) K K) (W.alloc (.cells (bl (List.replicate K false)) 4)) := fun W => by
  rw [← bl_new, ← List.toArray_replicate, ← made_one]; exact run_make_row' 226 4 (.bool false) 1 Tryd.underlying226 info4 rfl .i64 .i64 K (by omega) (by omega) W
 clear hg hf hks hb0 hK hKF
 go_enter Tryd.func103, Tryd.ntmps103
 go_wp2_with ((with_reducible refine gate_ (.load 51 (.tmp 1)) rfl ?_); refine Hid.out ?_)
 refine Lib.hid ?_; generalize w.alloc (.cells #[.slice A l.length c, .slice B m.length d, .slice C ps.length e] 51) = V0 at *; have x0 := zaa HX0.out 0; have x1 := zaa HX0.out 1; have x2 := zaa HX0.out 2; simp at x0 x1 x2
 go_wp2_with (go_at_call 122; refine Hid.out ?_)
 refine Lib.hid ?_; refine (trellisref11_Sound.calls ks A c l B d m C e ps true V0 HS0.out.hA HS0.out.cA HS0.out.hB HS0.out.cB HS0.out.hC HS0.out.cC HKS.out).mono ?_; rintro e1 V1 ⟨rfl, hb⟩; have HX := Lib.hid (zak HX0.out hb); have HB := Lib.hid (zam HB0.out hb); clear hb HX0 HB0 HS0 HKS x0 x1 x2; have x0 := zaa HX.out 0; have x1 := zaa HX.out 1; have x2 := zaa HX.out 2; simp at x0 x1 x2
 go_wp2_with fail
 clear x0 x1 x2 hmk; have hkl := zba HX.out; have HN := Lib.hid (zau V1 (.cells (bl (List.replicate K false)) 4)); have HXn := Lib.hid (zad HX.out (.cells (bl (List.replicate K false)) 4)); have HBn := Lib.hid (zac HB.out (.cells (bl (List.replicate K false)) 4)); have hkb : w.heap.size < V1.heap.size := hkl; clear HX HB hkl; generalize V1.alloc (.cells (bl (List.replicate K false)) 4) = V2 at *; generalize V1.heap.size = kb at *
 go_loopw [4] (fun v w' => ∃ (j : Nat) (Kc : List Bool), v = .int .i64 (j : Int) ∧ j ≤ m.length ∧ Hid (nullN l.length ps (m.length - j) Kc = KF) ∧ Hid (Kc.length = K) ∧ Hid (Below w.heap.size w w') ∧ Hid (w'.heap[kb]? = some (.cells (bl Kc) 4 (0, 0))) ∧ Hid (w'.heap[w.heap.size]? = some (Obj.cells #[.slice A l.length c, .slice B m.length d, .slice C ps.length e] 51 (0, 0)))) (fun v _ => m.length - (intOf v).toNat)
 case atStart => exact ⟨0, _, rfl, Nat.zero_le _, Lib.hid (by rw [Nat.sub_zero]; exact HKF.out.symm), Lib.hid List.length_replicate, HBn, HN, HXn⟩
 case round =>
  clear HBn HN HXn; obtain ⟨j, Kc, rfl, hj, HKC, HKL, HB, HN, HX⟩ := hrel; have x1 := zaa HX.out 1; simp at x1; by_cases hjl : j < m.length
  ·have hjb : decide ((j : Int) < (m.length : Int)) = true := decide_eq_true (by omega)
   have hjw : IntKind.i64.wrap ((j : Int) + 1) = (j : Int) + 1 := IntWalk.i64_in _ (by omega)
   have hj2 : j + 1 ≤ m.length := hjl; have hme : m.length - (j + 1) < m.length - j := by omega
   have HKC2 : Hid (nullN l.length ps (m.length - (j + 1)) (roundN l.length ps Kc) = KF) := Lib.hid (by
    have h := HKC.out; rw [show m.length - j = (m.length - (j + 1)) + 1 by omega] at h
    exact h)
   go_wp2_with fail
   clear x1
   go_loopw [5] (fun v w' => ∃ (i : Nat) (Kq : List Bool), v = .int .i64 (i : Int) ∧ i ≤ ps.length ∧ Hid (roundN l.length (ps.drop i) Kq = roundN l.length ps Kc) ∧ Hid (Kq.length = K) ∧ Hid (Below w.heap.size w w') ∧ Hid (w'.heap[kb]? = some (.cells (bl Kq) 4 (0, 0))) ∧ Hid (w'.heap[w.heap.size]? = some (Obj.cells #[.slice A l.length c, .slice B m.length d, .slice C ps.length e] 51 (0, 0)))) (fun v _ => ps.length - (intOf v).toNat)
   case atStart => exact ⟨0, Kc, rfl, Nat.zero_le _, Lib.hid (by rw [List.drop_zero]), HKL, HB, HN, HX⟩
   case round =>
    clear HB HN HX; obtain ⟨i, Kq, rfl, hi, HR, HL, HB, HN, HX⟩ := hrel; have x0 := zaa HX.out 0; have x2 := zaa HX.out 2; simp at x0 x2; by_cases hil : i < ps.length
    ·have hib : decide ((i : Int) < (ps.length : Int)) = true := decide_eq_true (by omega)
     have hi0 : (0 : Int) ≤ (i : Int) := Int.natCast_nonneg _; have hi1 : (i : Int) < (ps.length : Int) := by omega
     have hiw : IntKind.i64.wrap ((i : Int) + 1) = (i : Int) + 1 := IntWalk.i64_in _ (by omega)
     have hi2 : i + 1 ≤ ps.length := hil; have hmf : ps.length - (i + 1) < ps.length - i := by omega
     obtain ⟨adp, Ap, cp, rfl, p0, p1, hcp, hrp⟩ := at_T77 (Kd.zav HG.out.hC HB.out) (i : Int) hi0 hi1; rw [Int.toNat_natCast] at p0 p1; have hmem : zal ps (i : Int) ∈ ps := rd77_mem hil; have hst : roundN l.length (ps.drop (i + 1)) (stepN l.length Kq (zal ps (i : Int))) = roundN l.length ps Kc := by
      have h := HR.out; rw [List.drop_eq_getElem_cons hil] at h; rw [rdT77_nat ps i hil]; exact h
     have h8 := HF.out.lhs _ hmem; have h9 := HF.out.row hmem; have HRW := Lib.hid (HF.out.rhs _ hmem); generalize zal ps (i : Int) = pr at *; obtain ⟨lhs, row⟩ := pr; simp only at p0 p1 hcp hrp h8 h9; have HST := Lib.hid hst; have HRP := Lib.hid hrp; clear hmem hst hrp; by_cases hneg : lhs < 0
     ·have hnb : decide (lhs ≥ 0) = false := decide_eq_false (by omega)
      have hnb2 : decide (0 ≤ lhs) = false := decide_eq_false (by omega)
      have HSTn : Hid (roundN l.length (ps.drop (i + 1)) Kq = roundN l.length ps Kc) := Lib.hid (by
       have h := HST.out; unfold stepN at h; rw [if_neg (fun cc => by have := cc.1; simp only at this; omega)] at h
       exact h)
      have HBa := Lib.hid (zac HB.out (.cells #[.int .i64 lhs, .slice Ap row.length cp] 77)); have HNa := Lib.hid (zad HN.out (.cells #[.int .i64 lhs, .slice Ap row.length cp] 77)); have HXa := Lib.hid (zad HX.out (.cells #[.int .i64 lhs, .slice Ap row.length cp] 77))
      go_wp2_with fail
      go_roundw
      case rel => exact ⟨i + 1, Kq, by rw [Int.natCast_add]; rfl, hi2, HSTn, HL, HBa, HNa, HXa⟩
      case measure => exact hmf
     ·obtain ⟨n, rfl⟩ := Int.eq_ofNat_of_zero_le (show 0 ≤ lhs by omega)
      have hnb : decide ((n : Int) ≥ 0) = true := decide_eq_true (by omega)
      have hnb2 : decide (0 ≤ (n : Int)) = true := decide_eq_true (by omega)
      obtain ⟨kg, hkg⟩ := (goes_ev Kq row (fun r hr => by have := HRW.out r hr; have := HL.out; have := HKE.out; omega) (by omega)).rounds
      have hba := zac (Below.refl wr.heap.size wr) (.cells #[.int .i64 (n : Int), .slice Ap row.length cp] 77); have HBa := Lib.hid (zac HB.out (.cells #[.int .i64 (n : Int), .slice Ap row.length cp] 77)); have HNa := Lib.hid (zad HN.out (.cells #[.int .i64 (n : Int), .slice Ap row.length cp] 77)); have HXa := Lib.hid (zad HX.out (.cells #[.int .i64 (n : Int), .slice Ap row.length cp] 77)); have HPa := Lib.hid (zau wr (.cells #[.int .i64 (n : Int), .slice Ap row.length cp] 77)); have hcall := trellisref11_goes.calls kg (some ⟨kb, 0, none⟩) K Kq Ap cp row (goesS Kq row) (wr.alloc (.cells #[.int .i64 (n : Int), .slice Ap row.length cp] 77)) (bl_C HNa.out (by have := HL.out; omega)) (by rw [HL.out]; exact Nat.le_refl _) (Kd.zav HRP.out hba) hcp hkg
      rw [HL.out] at hcall; have HCL := Lib.hid hcall; clear hcall hkg hba HB HN HX; have hpl := zba HXa.out; have hnl := zba HNa.out
      go_wp2_with ((with_reducible refine gate_ (.fieldAddr 77 (.tmp 6) 0) rfl ?_); refine Hid.out ?_)
      refine Lib.hid ?_; clear p0 p1 x0 x2; generalize wr.alloc (.cells #[.int .i64 (n : Int), .slice Ap row.length cp] 77) = W1 at *; generalize wr.heap.size = pb at *; have q0 := zaa HPa.out 0; have q1 := zaa HPa.out 1; simp at q0 q1
      go_wp2_with (go_at_call 123; refine Hid.out ?_)
      refine Lib.hid ?_; refine (HCL.out).mono ?_; rintro e2 W2 ⟨rfl, hdr⟩; have HB2 := Lib.hid (zam HBa.out hdr.below); have HN2 := Lib.hid (zak HNa.out hdr.below); have HX2 := Lib.hid (zak HXa.out hdr.below); have HP2 := Lib.hid (zak HPa.out hdr.below); clear hdr HBa HNa HXa HPa HCL q0 q1; cases hgo : goesS Kq row with
      | true =>
       have HGO := Lib.hid hgo; clear hgo; have q0 := zaa HP2.out 0; have x0 := zaa HX2.out 0; simp at q0 x0; have hxk : l.length + n < K := by have := HKE.out; omega
       have hxw : IntKind.i64.wrap ((l.length : Int) + (n : Int)) = ((l.length + n : Nat) : Int) := by rw [Int.natCast_add]; exact IntWalk.i64_in _ (by omega)
       have hx0 : (0 : Int) ≤ ((l.length + n : Nat) : Int) := Int.natCast_nonneg _; have hx1 : ((l.length + n : Nat) : Int) < (K : Int) := by omega
       generalize hxx : l.length + n = y at *; have z0 := (zaa HN2.out y).trans (bl_get (by rw [HL.out]; exact hxk))
       have z1 := zae HN2.out y
       go_wp2_with fail
       have HSTt : Hid (roundN l.length (ps.drop (i + 1)) (Kq.set y true) = roundN l.length ps Kc) := Lib.hid (by
        have h := HST.out; unfold stepN at h; rw [if_pos ⟨Int.natCast_nonneg _, HGO.out⟩] at h; simp only [Int.toNat_natCast, hxx] at h; exact h)
       have HL3 : Hid ((Kq.set y true).length = K) := Lib.hid (by rw [List.length_set]; exact HL.out)
       have HB3 := Lib.hid (zaf (j := y) (v := .bool true) HB2.out (Nat.le_of_lt hkb)); have HN3 := Lib.hid (zat HN2.out y (.bool true) (bl_set Kq y true)); have HX3 := Lib.hid (zar HX2.out (p := ⟨kb, y, none⟩) (by show w.heap.size ≠ kb; omega) (.bool true))
       go_roundw
       case rel => exact ⟨i + 1, Kq.set y true, by rw [Int.natCast_add]; rfl, hi2, HSTt, HL3, HB3, HN3, HX3⟩
       case measure => exact hmf
      | false =>
       have HSTf : Hid (roundN l.length (ps.drop (i + 1)) Kq = roundN l.length ps Kc) := Lib.hid (by
        have h := HST.out; unfold stepN at h; rw [if_neg (fun cc => by have := cc.2; simp only at this; rw [hgo] at this; cases this)] at h
        exact h)
       go_wp2_with fail
       go_roundw
       case rel => exact ⟨i + 1, Kq, by rw [Int.natCast_add]; rfl, hi2, HSTf, HL, HB2, HN2, HX2⟩
       case measure => exact hmf
    ·have hib : decide ((i : Int) < (ps.length : Int)) = false := decide_eq_false (by omega)
     have HE : Hid (roundN l.length ps Kc = Kq) := Lib.hid (by
      have h := HR.out; rw [List.drop_eq_nil_of_le (by omega)] at h
      exact h.symm)
     have HKC3 : Hid (nullN l.length ps (m.length - (j + 1)) Kq = KF) := Lib.hid (by rw [← HE.out]; exact HKC2.out)
     go_wp2_with fail
     go_roundw
     case rel => exact ⟨j + 1, Kq, by rw [Int.natCast_add]; rfl, hj2, HKC3, HL, HB, HN, HX⟩
     case measure => exact hme
  ·have hjb : decide ((j : Int) < (m.length : Int)) = false := decide_eq_false (by omega)
   have HE : Hid (Kc = KF) := Lib.hid (by
    have h := HKC.out; rw [show m.length - j = 0 by omega] at h
    exact h)
   go_wp2_with fail
   go_ret; exact ⟨kb, rfl, Nat.le_of_lt hkb, HB.out, by rw [← HE.out]; exact HN.out⟩
end Doc
end Go.Proofs.YtcijanmckhlpiaaDoor
namespace Go.Proofs.YtcijanmckhlpiaaDoor
open Go.RowKit Go.Proofs.YtcijanmckhlpiaaDoor.PTableBuilds
namespace Doc
open Bld
def BSub (a b : List Bool) : Prop := ∀ k, van a k = true → van b k = true
theorem BSub.refl (a : List Bool) : BSub a a := fun _ h => h
theorem BSub.trans {a b c : List Bool} (h : BSub a b) (h' : BSub b c) : BSub a c := fun k x => h' k (h k x)
def HeadsIn (T : Nat) (ps : List S77) (S : List Bool) (row : List S110) : Prop := ∀ h, Head T ps row h → van S h = true
def ClB (T : Nat) (ps : List S77) (S : List Bool) (x : Nat) : Prop := ∀ p ∈ ps, 0 ≤ p.f0 → T + p.f0.toNat = x → HeadsIn T ps S p.f1
theorem HeadsIn.up {T : Nat} {ps : List S77} {S S' : List Bool} {row : List S110} (h : HeadsIn T ps S row) (hu : BSub S S') : HeadsIn T ps S' row := fun x hx => hu x (h x hx)
theorem ClB.up {T : Nat} {ps : List S77} {S S' : List Bool} {x : Nat} (h : ClB T ps S x) (hu : BSub S S') : ClB T ps S' x := fun p hp h0 he => (h p hp h0 he).up hu
structure LR (T : Nat) (ps : List S77) (K : Nat) (S0 S : List Bool) (src opn : Nat → Prop) : Prop where
 len : S.length = K
 up : BSub S0 S
 reach : ∀ x, van S x = true → van S0 x = false → ∃ h, src h ∧ Lead T ps h x
 closed : ∀ x, van S x = true → van S0 x = false → ¬ opn x → ClB T ps S x
section
variable {T K : Nat} {ps : List S77} {S0 S S' : List Bool} {src opn : Nat → Prop}
theorem LR.start (hl : S.length = K) : LR T ps K S S src (fun _ => False) := ⟨hl, BSub.refl _, fun x h1 h2 => absurd h1 (by rw [h2]; decide), fun x h1 h2 => absurd h1 (by rw [h2]; decide)⟩
theorem bsub_set (x : Nat) : BSub S (S.set x true) := fun k h => by
 rw [van_set]
 split
 ·rfl
 ·exact h
theorem LR.mark (H : LR T ps K S0 S src (fun _ => False)) {x : Nat} (hx : src x) : LR T ps K S0 (S.set x true) src (fun y => y = x) := by
 have hu := bsub_set (S := S) x; refine ⟨by rw [List.length_set]; exact H.len, H.up.trans hu, fun y h1 h2 => ?_, fun y h1 h2 hne => ?_⟩
 ·rw [van_set] at h1; by_cases hc : x = y ∧ x < S.length
  ·rw [← hc.1]; exact ⟨x, hx, .refl x⟩
  ·rw [if_neg hc] at h1; exact H.reach y h1 h2
 ·rw [van_set, if_neg (fun hc => hne hc.1.symm)] at h1
  exact (H.closed y h1 h2 (fun h => h)).up hu
theorem LR.into (H : LR T ps K S0 S src opn) {x : Nat} (hx : src x) {p : S77} (hp : p ∈ ps) (h0 : 0 ≤ p.f0) (he : T + p.f0.toNat = x) (H' : LR T ps K S S' (Head T ps p.f1) (fun _ => False)) : LR T ps K S0 S' src opn := by
 refine ⟨H'.len, H.up.trans H'.up, fun y h1 h2 => ?_, fun y h1 h2 hne => ?_⟩
 ·cases hy : van S y with
  | true => exact H.reach y hy h2
  | false =>
   obtain ⟨h, hh, hl⟩ := H'.reach y h1 hy; exact ⟨x, hx, by rw [← he]; exact .step p hp h0 h y hh hl⟩
 ·cases hy : van S y with
  | true => exact (H.closed y hy h2 hne).up H'.up
  | false => exact H'.closed y h1 hy (fun h => h)
theorem LR.done {x : Nat} (H : LR T ps K S0 S src (fun y => y = x)) (hc : ClB T ps S x) : LR T ps K S0 S src (fun _ => False) :=
 ⟨H.len, H.up, H.reach, fun y h1 h2 _ => by
  by_cases e : y = x
  ·rw [e]; exact hc
  ·exact H.closed y h1 h2 e⟩
theorem lead_in (hc : ∀ x, van S x = true → ClB T ps S x) : ∀ x y, Lead T ps x y → van S x = true → van S y = true := by
 intro x y h
 induction h with
 | refl x => exact id
 | step p hp h0 x y hh _ ih => exact fun hx => ih (hc _ hx p hp h0 rfl x hh)
theorem head_take {row : List S110} {i : Nat} (hi : i < row.length) (hv : ∀ j, j < i → ∀ r, row[j]? = some r → Van T ps r.f0.toNat) : Head T ps row (row[i]).f0.toNat :=
 ⟨row.take i, row[i], row.drop (i + 1), by rw [← List.drop_eq_getElem_cons hi, List.take_append_drop], fun q hq => by
  obtain ⟨j, hj, e⟩ := List.getElem_of_mem hq; rw [List.length_take] at hj; exact hv j (by omega) q (by rw [← e, List.getElem_take, List.getElem?_eq_getElem]), rfl⟩
theorem heads_all {row : List S110} (hv : ∀ j, j < row.length → ∀ r, row[j]? = some r → van S r.f0.toNat = true) : HeadsIn T ps S row := by
 rintro h ⟨u, r, v, e, -, rfl⟩; exact hv u.length (by rw [e]; simp) r (by rw [e]; simp)
theorem heads_stop {row : List S110} {i : Nat} (hi : i < row.length) (hv : ∀ j, j ≤ i → ∀ r, row[j]? = some r → van S r.f0.toNat = true) (hn : ¬ Van T ps (row[i]).f0.toNat) : HeadsIn T ps S row := by
 rintro h ⟨u, r, v, e, hu, rfl⟩; refine hv u.length ?_ r (by rw [e]; simp)
 apply Classical.byContradiction; intro hlt; apply hn; have hiu : i < u.length := by omega
 have e2 : row[i] = u[i] := by
  have : row[i]? = u[i]? := by rw [e, List.getElem?_append_left hiu]
  rw [List.getElem?_eq_getElem hi, List.getElem?_eq_getElem hiu] at this; exact Option.some.inj this
 rw [e2]; exact hu _ (List.getElem_mem hiu)
theorem room_mark {x : Nat} (hx : x < S.length) (hf : van S x = false) : roomV (S.set x true) < roomV S := by
 have h := (roomV_set S x true).2; rw [Bool.or_true] at h; refine h (fun e => ?_)
 have := congrArg (fun l => van l x) e
 simp only [van_set] at this; rw [if_pos ⟨trivial, hx⟩, hf] at this; cases this
theorem room_up : ∀ {S S' : List Bool}, S.length = S'.length → BSub S S' → roomV S' ≤ roomV S
 | [], [], _, _ => Nat.le_refl _
 | a :: S, b :: S', hl, h => by
  have ih := room_up (S := S) (S' := S') (by simpa using hl) (fun k hk => h (k + 1) hk)
  have h0 := h 0; simp only [van, List.getD_cons_zero] at h0; simp only [roomV, List.countP_cons] at ih ⊢; cases a <;> cases b <;> simp_all <;> omega
end
end Doc
end Go.Proofs.YtcijanmckhlpiaaDoor
namespace Go.Proofs.YtcijanmckhlpiaaDoor.PTableBuilds
open Go.RowKit Go.Proofs.YtcijanmckhlpiaaDoorW.PrintWords Go.Proofs.YtcijanmckhlpiaaDoorW.PrintLast Go.Proofs.YtcijanmckhlpiaaDoorW.PrintMore
attribute [local go_sem] max2_int min2_int max_two min_two max_three min_three max_four min_four
theorem info90 : (Tryd.prog.info? 90).map (fun i => (i.zero, i.size, i.bytes)) = some (some (.slice none 0 0), 1, 24) := by kernel_rfl
theorem info95 : (Tryd.prog.info? 95).map (fun i => (i.zero, i.size, i.bytes)) = some (some (.slice none 0 0), 1, 24) := by kernel_rfl
theorem info3 : (Tryd.prog.info? 3).map (fun i => (i.zero, i.size, i.bytes)) = some (some (.int .i64 0), 1, 8) := by kernel_rfl
theorem info5 : (Tryd.prog.info? 5).map (fun i => (i.zero, i.size, i.bytes)) = some (some (.int .u8 0), 1, 1) := by kernel_rfl
theorem k77_openF {W : World} {ok : Nat → Prop} {x : S77} {cs : List Value} (h : Kd.FK k77 W ok x cs) : ∃ A1 c1, cs = [.int .i64 x.f0, .slice A1 x.f1.length c1] ∧ x.f1.length ≤ c1 ∧ Kd.F k110 W ok A1 x.f1.length x.f1 := by
 obtain ⟨A1, c1, rfl, l1, _⟩ := k77_open (Kd.FK_now h); exact ⟨A1, c1, rfl, l1, (fun W' hW => by obtain ⟨A1_, c1_, he, l1_, g1_⟩ := k77_open (h W' hW); injection (Option.some.inj (show some (Value.slice A1 x.f1.length c1) = some (Value.slice A1_ x.f1.length c1_) from congrArg (fun l => l[1]?) he)) with ha_ _ _; rw [ha_]; exact g1_)⟩
end Go.Proofs.YtcijanmckhlpiaaDoor.PTableBuilds
namespace Go.Proofs.YtcijanmckhlpiaaDoor
open Go.RowKit Go.Proofs.YtcijanmckhlpiaaDoorW.PrintWords Go.Proofs.YtcijanmckhlpiaaDoorW.PrintLast Go.Proofs.YtcijanmckhlpiaaDoorW.PrintMore Go.Proofs.YtcijanmckhlpiaaDoor.PTableBuilds
namespace Doc
open Bld
structure Bel (sb : Nat) (w w' : World) : Prop where
 os : w'.os = w.os
 tape : w'.tape = w.tape
 output : w'.output = w.output
 size : w.heap.size ≤ w'.heap.size
 block : ∀ k, k < w.heap.size → k ≠ sb → w'.heap[k]? = w.heap[k]?
section
variable {sb : Nat} {w w1 w2 : World}
theorem Bel.refl (sb : Nat) (w : World) : Bel sb w w := ⟨rfl, rfl, rfl, Nat.le_refl _, fun _ _ _ => rfl⟩
theorem Bel.trans (h : Bel sb w w1) (h' : Bel sb w1 w2) : Bel sb w w2 := ⟨h'.os.trans h.os, h'.tape.trans h.tape, h'.output.trans h.output, Nat.le_trans h.size h'.size, fun k hk hne => (h'.block k (Nat.lt_of_lt_of_le hk h.size) hne).trans (h.block k hk hne)⟩
theorem Bel.of (h : Below w.heap.size w w1) : Bel sb w w1 := ⟨h.os, h.tape, h.output, h.size, fun k hk _ => h.block k hk⟩
theorem Bel.alloc (h : Bel sb w w1) (o : Obj) : Bel sb w (w1.alloc o) := h.trans (.of (zac (Below.refl _ _) o))
theorem Bel.drewN (h : Bel sb w w1) (n : Nat) : Bel sb w (w1.drewN n) := h.trans (.of (zab (Below.refl _ _) n))
theorem Bel.drew (h : Bel sb w w1) : Bel sb w w1.drew := h.trans (.of (zaw (Below.refl _ _)))
theorem Bel.set (h : Bel sb w w1) (j : Nat) (v : Value) : Bel sb w (w1.setCell ⟨sb, j, none⟩ v) := by
 have b := (Below.refl 0 w1).setCell (p := ⟨sb, j, none⟩) (Nat.zero_le _) v; exact h.trans ⟨b.os, b.tape, b.output, b.size, fun k _ hne => Below.heap_setCell w1 _ v k hne⟩
theorem Bel.blk (h : Bel sb w w1) {k : Nat} {o : Obj} (hk : w.heap[k]? = some o) (hne : k ≠ sb) : w1.heap[k]? = some o := (h.block k (zba hk) hne).trans hk
theorem Bel.F {α : Type} {d : Kd α} {A : Option Addr} {n : Nat} {xs : List α} (h : Bel sb w w1) (hF : Kd.F d w (fun k => k ≠ sb) A n xs) : Kd.F d w1 (fun k => k ≠ sb) A n xs := Kd.F_step hF (fun k hk hlt => h.block k hlt hk)
end
theorem F_77 {W : World} {ok : Nat → Prop} {C : Option Addr} {n : Nat} {ps : List S77} (h : Kd.F k77 W ok C n ps) {i : Nat} (hi : i < n) : ∃ ad A1 c1, C = some ad ∧ W.cell? (ad.add (i * 2)) = some (.int .i64 (zal ps (i : Int)).f0) ∧ W.cell? ⟨(ad.add (i * 2)).block, (ad.add (i * 2)).off + 1, none⟩ = some (.slice A1 (zal ps (i : Int)).f1.length c1) ∧ (zal ps (i : Int)).f1.length ≤ c1 ∧ Kd.F k110 W ok A1 (zal ps (i : Int)).f1.length (zal ps (i : Int)).f1 := by
 obtain ⟨ad, cs, e, hcl, hK, hcc, -⟩ := Kd.F_get h z77 (i : Int) (Int.natCast_nonneg _) (by omega)
 obtain ⟨A1, c1, rfl, l1, g1⟩ := k77_openF hK; rw [Int.toNat_natCast] at hcc; have hc : ∀ j u, ([.int .i64 (zal ps (i : Int)).f0, .slice A1 (zal ps (i : Int)).f1.length c1] : List Value)[j]? = some u → W.cell? (ad.add (i * 2 + j)) = some u := hcc; exact ⟨ad, A1, c1, e, hc 0 _ rfl, by rw [← add_field _ _ 1 (by omega)]; exact hc 1 _ rfl, l1, g1⟩
def RetLead (T KK : Nat) (ps : List S77) (S : List Bool) (row : List S110) (sb : Nat) (w : World) (e : Ending) (w' : World) : Prop := e = .returned (.slice (some ⟨sb, 0, none⟩) KK KK) ∧ ∃ S', LR T ps KK S S' (Head T ps row) (fun _ => False) ∧ HeadsIn T ps S' row ∧ Bel sb w w' ∧ w'.heap[sb]? = some (.cells (bl S') 4 (0, 0))
set_option maxRecDepth 100000 in
set_option maxHeartbeats 8000000 in
theorem leads_any (A : Option Addr) (c : Nat) (l : List S112) (B : Option Addr) (d : Nat) (m : List S115) (C : Option Addr) (e : Nat) (ps : List S77) (hf : Bld.Fair l.length m.length ps) (KK : Nat) (hK : KK = l.length + m.length) (N : List Bool) (hNl : N.length = KK) (hv : ∀ k, van N k = true ↔ Van l.length ps k) (nb sb : Nat) (hns : nb ≠ sb) :
  ∀ (n : Nat) (S : List Bool) (Ar : Option Addr) (cr : Nat) (row : List S110) (w : World), roomV S ≤ n → S.length = KK → Kd.F k77 w (fun k => k ≠ sb) C ps.length ps → w.heap[nb]? = some (.cells (bl N) 4 (0, 0)) → Kd.F k110 w (fun k => k ≠ sb) Ar row.length row → row.length ≤ 1048576 → (∀ r ∈ row, 0 ≤ r.f0 ∧ r.f0 < (KK : Int)) → w.heap[sb]? = some (.cells (bl S) 4 (0, 0)) →
  Calls Tryd.prog 133 #[.agg #[.slice A l.length c, .slice B m.length d, .slice C ps.length e], .slice (some ⟨nb, 0, none⟩) KK KK, .slice Ar row.length cr, .slice (some ⟨sb, 0, none⟩) KK KK] w (RetLead l.length KK ps S row sb w) := by
 intro n
 induction n using Nat.strongRecOn with
 | _ n IH =>
 intro S Ar cr row w hroom hSl hC hN hR hrl hrr hS; have t1 := hf.t1; have t64 := hf.t64; have m128 := hf.m128; have hlen := hf.len; have hK192 : KK ≤ 192 := by omega
 have hgs : w.heap.size ≠ sb := by have := zba hS; omega
 have HIH := Lib.hid IH; have HC := Lib.hid hC; have HN := Lib.hid hN; have HR := Lib.hid hR; have HRR := Lib.hid hrr; have HV := Lib.hid hv; have HF := Lib.hid hf; have HNL := Lib.hid hNl; have HKE := Lib.hid hK; have HB0 := Lib.hid ((Bel.refl sb w).alloc (.cells #[.slice A l.length c, .slice B m.length d, .slice C ps.length e] 51)); have HX0 := Lib.hid (zau w (.cells #[.slice A l.length c, .slice B m.length d, .slice C ps.length e] 51)); have HS0 := Lib.hid (zad hS (.cells #[.slice A l.length c, .slice B m.length d, .slice C ps.length e] 51)); have HLR0 : Hid (LR l.length ps KK S S (Head l.length ps row) (fun _ => False)) := Lib.hid (LR.start hSl)
 clear IH hC hN hR hrr hv hf hNl hS hK
 go_enter Tryd.func133, Tryd.ntmps133
 go_wp2_with fail
 generalize w.alloc (.cells #[.slice A l.length c, .slice B m.length d, .slice C ps.length e] 51) = V0 at *
 go_loopw [3, 9] (fun v3 v9 w' => ∃ (i : Nat) (S1 : List Bool), v3 = .slice (some ⟨sb, 0, none⟩) KK KK ∧ v9 = .int .i64 (i : Int) ∧ i ≤ row.length ∧ Hid (LR l.length ps KK S S1 (Head l.length ps row) (fun _ => False)) ∧ Hid (∀ j, j < i → ∀ r, row[j]? = some r → Van l.length ps r.f0.toNat ∧ van S1 r.f0.toNat = true) ∧ Hid (Bel sb w w') ∧ Hid (w'.heap[sb]? = some (.cells (bl S1) 4 (0, 0))) ∧ Hid (w'.heap[w.heap.size]? = some (Obj.cells #[.slice A l.length c, .slice B m.length d, .slice C ps.length e] 51 (0, 0)))) (fun v3 v9 _ => row.length - (intOf v9).toNat)
 case atStart => exact ⟨0, S, rfl, rfl, Nat.zero_le _, HLR0, Lib.hid (fun j hj => absurd hj (Nat.not_lt_zero _)), HB0, HS0, HX0⟩
 case round =>
  clear HLR0 HB0 HS0 HX0; obtain ⟨i, S1, rfl, rfl, hi, HLR, HP, HB, HS, HX⟩ := hrel; by_cases hil : i < row.length
  ·have hib : decide ((i : Int) < (row.length : Int)) = true := decide_eq_true (by omega)
   have hi0 : (0 : Int) ≤ (i : Int) := Int.natCast_nonneg _; have hi1 : (i : Int) < (row.length : Int) := by omega
   have hiw : IntKind.i64.wrap ((i : Int) + 1) = (i : Int) + 1 := IntWalk.i64_in _ (by omega)
   have hi2 : i + 1 ≤ row.length := hil; have hme : row.length - (i + 1) < row.length - i := by omega
   have hFr := HB.out.F HR.out; obtain ⟨adr, rfl, r0, -⟩ := zbm (Kd.F_now hFr) (i : Int) hi0 hi1; rw [Int.toNat_natCast] at r0; rw [rdT110_nat row i hil] at r0; have hrm := HRR.out _ (List.getElem_mem hil); have hHead : Head l.length ps row (row[i]).f0.toNat := head_take hil (fun j hj r hr => (HP.out j hj r hr).1)
   have HHD := Lib.hid hHead; obtain ⟨y, hy⟩ := Int.eq_ofNat_of_zero_le hrm.1; have HRI := Lib.hid (List.getElem?_eq_getElem hil); have hyt : (row[i]).f0.toNat = y := by omega
   rw [hyt] at hHead; have HHDy := Lib.hid hHead; have HY := Lib.hid hyt; clear hHead HHD hFr; rw [hy] at r0 hrm; have hyK : y < KK := by omega
   have hy0 : (0 : Int) ≤ (y : Int) := Int.natCast_nonneg _; have hy1 : (y : Int) < (KK : Int) := by omega
   have z0 := (zaa HS.out y).trans (bl_get (by rw [HLR.out.len]; exact hyK))
   have zf := zae HS.out y; have nz := (zaa (HB.out.blk HN.out hns) y).trans (bl_get (by rw [HNL.out]; exact hyK))
   clear hy hyt; cases hs1 : van S1 y with
   | true =>
    rw [hs1] at z0; have HSV := Lib.hid hs1; clear hs1; cases hvy : van N y with
    | true =>
     rw [hvy] at nz; have HPx : Hid (∀ j, j < i + 1 → ∀ r, row[j]? = some r → Van l.length ps r.f0.toNat ∧ van S1 r.f0.toNat = true) := Lib.hid (fun j hj r hr => by
      by_cases e : j = i
      ·subst e; rw [HRI.out] at hr; injection hr with hr; rw [← hr, HY.out]; exact ⟨(HV.out y).1 hvy, HSV.out⟩
      ·exact HP.out j (by omega) r hr)
     go_wp2_with fail
     go_roundw
     case rel => exact ⟨i + 1, S1, rfl, by rw [Int.natCast_add]; rfl, hi2, HLR, HPx, HB, HS, HX⟩
     case measure => exact hme
    | false =>
     rw [hvy] at nz; have HH : Hid (HeadsIn l.length ps S1 row) := Lib.hid (heads_stop hil (fun j hj r hr => by
      by_cases e : j = i
      ·subst e; rw [HRI.out] at hr; injection hr with hr; rw [← hr, HY.out]; exact HSV.out
      ·exact (HP.out j (by omega) r hr).2) (fun h => by
       rw [HY.out] at h; have := (HV.out y).2 h; rw [hvy] at this; cases this))
     go_wp2_with fail
     go_ret; exact ⟨rfl, S1, HLR.out, HH.out, HB.out, HS.out⟩
   | false =>
    rw [hs1] at z0; have HLR1 := Lib.hid (HLR.out.mark HHDy.out); have hrm2 := room_mark (S := S1) (by rw [HLR.out.len]; exact hyK) hs1
    have hrm3 := room_up (S := S) (S' := S1) (by rw [HLR.out.len]; exact hSl) HLR.out.up
    have HRM : Hid (roomV (S1.set y true) < n) := Lib.hid (by omega)
    have HYM : Hid (van (S1.set y true) y = true) := Lib.hid (by rw [van_set, if_pos ⟨rfl, by rw [HLR.out.len]; exact hyK⟩])
    have HUP : Hid (BSub S1 (S1.set y true)) := Lib.hid (bsub_set y); have HB1 := Lib.hid (HB.out.set y (.bool true)); have HS1 := Lib.hid (zat HS.out y (.bool true) (bl_set S1 y true)); have HX1 := Lib.hid (zar HX.out (p := ⟨sb, y, none⟩) hgs (.bool true)); have HLM : Hid ((S1.set y true).length = KK) := Lib.hid (by rw [List.length_set]; exact HLR.out.len)
    clear hrm2 hrm3 hs1
    go_wp2_with fail
    clear z0 zf nz r0 HB HS HX HLR; generalize wr.setCell ⟨sb, y, none⟩ (.bool true) = V1 at *; generalize hM : S1.set y true = SM at *; clear hM
    go_loopw [3, 11] (fun v3 v11 w' => ∃ (q : Nat) (S2 : List Bool), v3 = .slice (some ⟨sb, 0, none⟩) KK KK ∧ v11 = .int .i64 (q : Int) ∧ q ≤ ps.length ∧ Hid (LR l.length ps KK S S2 (Head l.length ps row) (fun x => x = y)) ∧ Hid (BSub SM S2) ∧ Hid (∀ t, t < q → ∀ p, ps[t]? = some p → 0 ≤ p.f0 → l.length + p.f0.toNat = y → HeadsIn l.length ps S2 p.f1) ∧ Hid (Bel sb w w') ∧ Hid (w'.heap[sb]? = some (.cells (bl S2) 4 (0, 0))) ∧ Hid (w'.heap[w.heap.size]? = some (Obj.cells #[.slice A l.length c, .slice B m.length d, .slice C ps.length e] 51 (0, 0)))) (fun v3 v11 _ => ps.length - (intOf v11).toNat)
    case atStart => exact ⟨0, SM, rfl, rfl, Nat.zero_le _, HLR1, Lib.hid (BSub.refl _), Lib.hid (fun t ht => absurd ht (Nat.not_lt_zero _)), HB1, HS1, HX1⟩
    case round =>
     clear HLR1 HB1 HS1 HX1; obtain ⟨q, S2, rfl, rfl, hq, HLR, HUQ, HQ, HB, HS, HX⟩ := hrel; have x0 := zaa HX.out 0; have x1 := zaa HX.out 1; have x2 := zaa HX.out 2; simp at x0 x1 x2; by_cases hql : q < ps.length
     ·have hqb : decide ((q : Int) < (ps.length : Int)) = true := decide_eq_true (by omega)
      have hq0 : (0 : Int) ≤ (q : Int) := Int.natCast_nonneg _; have hq1 : (q : Int) < (ps.length : Int) := by omega
      have hqw : IntKind.i64.wrap ((q : Int) + 1) = (q : Int) + 1 := IntWalk.i64_in _ (by omega)
      have hq2 : q + 1 ≤ ps.length := hql; have hmf : ps.length - (q + 1) < ps.length - q := by omega
      have hFc := HB.out.F HC.out; obtain ⟨adp, Ap, cp, rfl, p0, p1, hcp, hFp⟩ := F_77 hFc hql; have hmem : zal ps (q : Int) ∈ ps := rd77_mem hql; have hps : ps[q]? = some (zal ps (q : Int)) := by rw [rdT77_nat ps q hql]; exact List.getElem?_eq_getElem hql
      have h8 := HF.out.lhs _ hmem; have h9 := HF.out.row hmem; have h10 := HF.out.rhs _ hmem; generalize zal ps (q : Int) = pr at *; obtain ⟨lhs, prow⟩ := pr; simp only at p0 p1 hcp hFp h8 h9 h10; have HRP := Lib.hid hFp; have HMEM := Lib.hid hmem; have HPS := Lib.hid hps; have HR10 := Lib.hid h10; have hsub : IntKind.i64.wrap ((y : Int) - (l.length : Int)) = (y : Int) - (l.length : Int) := IntWalk.i64_in _ (by omega)
      clear hFc hFp hmem hps h10; by_cases hhit : 0 ≤ lhs ∧ lhs = (y : Int) - (l.length : Int)
      ·obtain ⟨g, rfl⟩ := Int.eq_ofNat_of_zero_le hhit.1; have hgy : l.length + g = y := by omega
       have HGY := Lib.hid hgy; have hnb : decide ((g : Int) ≥ 0) = true := decide_eq_true (by omega)
       have hnb2 : decide (0 ≤ (g : Int)) = true := decide_eq_true (by omega)
       have hnb3 : decide ((g : Int) = (y : Int) - (l.length : Int)) = true := decide_eq_true (by omega)
       have hnb4 : ((g : Int) == (y : Int) - (l.length : Int)) = true := by simpa using hhit.2
       clear hhit hgy
       go_wp2_with fail
       refine wp_region_quiet_lit (by kernel_rfl) (by kernel_rfl) ?_
       repeat (go_big_quiet_step (fail))
       refine wpQuiet_nil ?_; intro _ hw1; obtain ⟨nq, hw2⟩ := hw1; subst hw2; have HBd := Lib.hid (HB.out.drewN nq); have HSd := Lib.hid (zai HS.out nq); have HXd := Lib.hid (zai HX.out nq); have p1d : (wr.drewN nq).cell? ⟨(adp.add (q * 2)).block, (adp.add (q * 2)).off + 1, none⟩ = some (.slice Ap prow.length cp) := zan (zab (Below.refl _ _) nq) p1; have HRPd := Lib.hid (Kd.F_drewN HRP.out nq); clear HB HS HX p0 p1 x0 x1 x2 HRP; generalize wr.drewN nq = V2 at *; have HCALL : Hid (Calls Tryd.prog 133 #[.agg #[.slice A l.length c, .slice B m.length d, .slice (some adp) ps.length e], .slice (some ⟨nb, 0, none⟩) KK KK, .slice Ap prow.length cp, .slice (some ⟨sb, 0, none⟩) KK KK] V2.drew (RetLead l.length KK ps S2 prow sb V2.drew)) := Lib.hid (HIH.out (roomV S2) (Nat.lt_of_le_of_lt (room_up (by rw [HLR.out.len, ← HLM.out]) HUQ.out) HRM.out) S2 Ap cp prow V2.drew (Nat.le_refl _) HLR.out.len (HBd.out.drew.F HC.out) (HBd.out.drew.blk HN.out hns) (Kd.F_drew HRPd.out) (by omega) (fun r hr => by have := HR10.out r hr; have := HKE.out; omega) (zah HSd.out))
       have hmx : Tryd.prog.follows .mixedOrders = true := by kernel_rfl
       go_wp2_with fail
       refine start_ (n := 11) (S := fun w' => w'.cell? ⟨w.heap.size, 0, none⟩ = some (.slice A l.length c) ∧ w'.cell? ⟨w.heap.size, 1, none⟩ = some (.slice B m.length d) ∧ w'.cell? ⟨w.heap.size, 2, none⟩ = some (.slice (some adp) ps.length e) ∧ w'.cell? ⟨(adp.add (q * 2)).block, (adp.add (q * 2)).off + 1, none⟩ = some (.slice Ap prow.length cp)) (ds := [9]) #[false, false, false, false, false, false, false, false, false, false, false] (by kernel_rfl) rfl rfl ⟨zaa (zah HXd.out) 0, zaa (zah HXd.out) 1, zaa (zah HXd.out) 2, zan (zaw (Below.refl _ _)) p1d⟩ (fun hHeld => ?_)
       refine pe_ 1 (some 60) ?_ ?_ ?_ ?_ ?_; rotate_left
       ·intro w'; go_simp
        with_reducible rfl
       rotate_left
       ·simp only [nm_]; rfl
       refine pe_ 2 (some 61) ?_ ?_ ?_ ?_ ?_; rotate_left
       ·intro w'; go_simp
        with_reducible rfl
       rotate_left
       ·simp only [nm_]; rfl
       refine pe_ 4 (some 63) ?_ ?_ ?_ ?_ ?_; rotate_left
       ·intro w'; go_simp
        with_reducible rfl
       rotate_left
       ·simp only [nm_]; rfl
       refine pe_ 8 (some 67) ?_ ?_ ?_ ?_ ?_; rotate_left
       ·intro w'; go_simp
        with_reducible rfl
       rotate_left
       ·simp only [nm_]; rfl
       refine te_ 0 (some 59) hHeld ?_ ?_ ?_ ?_ ?_; rotate_left
       ·rintro w' ⟨s0, s1, s2, s3⟩; go_simp
        with_reducible rfl
       rotate_left
       ·simp only [nm_]; rfl
       refine te_ 3 (some 62) hHeld ?_ ?_ ?_ ?_ ?_; rotate_left
       ·rintro w' ⟨s0, s1, s2, s3⟩; go_simp
        with_reducible rfl
       rotate_left
       ·simp only [nm_]; rfl
       refine pe_ 5 (some 64) ?_ ?_ ?_ ?_ ?_; rotate_left
       ·intro w'; go_simp
        with_reducible rfl
       rotate_left
       ·simp only [nm_]; rfl
       refine pe_ 6 (some 65) ?_ ?_ ?_ ?_ ?_; rotate_left
       ·intro w'; go_simp
        with_reducible rfl
       rotate_left
       ·simp only [nm_]; rfl
       refine te_ 7 (some 66) hHeld ?_ ?_ ?_ ?_ ?_; rotate_left
       ·rintro w' ⟨s0, s1, s2, s3⟩; go_simp
        with_reducible rfl
       rotate_left
       ·simp only [nm_]; rfl
       refine lu_ (i := 9) (N := some 68) rfl rfl (by kernel_rfl) (by decide) (fun K hK => ?_)
       refine goes_ Tryd.func133 (by kernel_rfl) rfl #[.agg #[.slice A l.length c, .slice B m.length d, .slice (some adp) ps.length e], .slice (some ⟨nb, 0, none⟩) KK KK, .slice Ap prow.length cp, .slice (some ⟨sb, 0, none⟩) KK KK] (by rfl) rfl rfl (by simp only [List.map_toArray, List.map_cons, List.map_nil]; rfl) ?_
       with_reducible refine (HCALL.out).mono ?_
       rintro e3 V3 ⟨rfl, S3, hl3, hh3, hb3, hs3⟩; refine ⟨_, rfl, ?_⟩; have HLR3 := Lib.hid (HLR.out.into HHDy.out HMEM.out (Int.natCast_nonneg _) (by rw [Int.toNat_natCast]; exact HGY.out) hl3)
       have HUQ3 := Lib.hid (HUQ.out.trans hl3.up); have HQ3 : Hid (∀ t, t < q + 1 → ∀ p, ps[t]? = some p → 0 ≤ p.f0 → l.length + p.f0.toNat = y → HeadsIn l.length ps S3 p.f1) := Lib.hid (fun t ht p hp h0 hey => by
        by_cases htq : t = q
        ·subst htq; rw [HPS.out] at hp; injection hp with hp; rw [← hp]; exact hh3
        ·exact (HQ.out t (by omega) p hp h0 hey).up hl3.up)
       have HB3 := Lib.hid (HBd.out.drew.trans hb3); have HS3 := Lib.hid hs3; have HX3 := Lib.hid (hb3.blk (zah HXd.out) hgs); clear hl3 hh3 hb3 hs3; refine hK.out _ _ ?_; clear hK K; refine norm_ (a' := ?_) ?_ ?_; rotate_left
       ·show Act.put _ (some 68) _ = _; simp only [nm_]; rfl
       refine pe_ 10 (some 3) ?_ ?_ ?_ ?_ ?_; rotate_left
       ·intro w'; go_simp
        with_reducible rfl
       rotate_left
       ·simp only [nm_]; rfl
       refine done_ (by kernel_rfl) ?_
       go_wp2_with fail
       go_roundw
       case rel => first | exact ⟨q + 1, S3, rfl, by rw [Int.natCast_add]; rfl, hq2, HLR3, HUQ3, HQ3, HB3, HS3, HX3⟩ | ((repeat apply Exists.intro); exact ⟨⟨q + 1, S3, rfl, by rw [Int.natCast_add]; rfl, hq2, HLR3, HUQ3, HQ3, HB3, HS3, HX3⟩, rfl⟩)
       case measure => exact hmf
      ·have HQ2 : Hid (∀ t, t < q + 1 → ∀ p, ps[t]? = some p → 0 ≤ p.f0 → l.length + p.f0.toNat = y → HeadsIn l.length ps S2 p.f1) := Lib.hid (fun t ht p hp h0 hey => by
        by_cases htq : t = q
        ·subst htq; rw [HPS.out] at hp; injection hp with hp; rw [← hp] at h0 hey; exact absurd ⟨h0, by simp only at h0 hey; omega⟩ hhit
        ·exact HQ.out t (by omega) p hp h0 hey)
       by_cases hn0 : 0 ≤ lhs
       ·have hnb : decide (lhs ≥ 0) = true := decide_eq_true (by omega)
        have hnb2 : decide (0 ≤ lhs) = true := decide_eq_true (by omega)
        have hne : ¬ lhs = (y : Int) - (l.length : Int) := fun e => hhit ⟨hn0, e⟩
        have hnb3 : decide (lhs = (y : Int) - (l.length : Int)) = false := decide_eq_false hne; have hnb4 : (lhs == (y : Int) - (l.length : Int)) = false := by simpa using hne
        clear hhit hne
        go_wp2_with fail
        refine wp_region_quiet_lit (by kernel_rfl) (by kernel_rfl) ?_
        repeat (go_big_quiet_step (fail))
        refine wpQuiet_nil ?_; intro _ hw1; obtain ⟨nq, hw2⟩ := hw1; subst hw2; have HBd := Lib.hid (HB.out.drewN nq); have HSd := Lib.hid (zai HS.out nq); have HXd := Lib.hid (zai HX.out nq)
        go_wp2_with fail
        go_roundw
        case rel => first | exact ⟨q + 1, S2, rfl, by rw [Int.natCast_add]; rfl, hq2, HLR, HUQ, HQ2, HBd, HSd, HXd⟩ | ((repeat apply Exists.intro); exact ⟨⟨q + 1, S2, rfl, by rw [Int.natCast_add]; rfl, hq2, HLR, HUQ, HQ2, HBd, HSd, HXd⟩, rfl⟩)
        case measure => exact hmf
       ·have hnb : decide (lhs ≥ 0) = false := decide_eq_false (by omega)
        have hnb2 : decide (0 ≤ lhs) = false := decide_eq_false (by omega)
        clear hhit
        go_wp2_with fail
        refine wp_region_quiet_lit (by kernel_rfl) (by kernel_rfl) ?_
        repeat (go_big_quiet_step (fail))
        refine wpQuiet_nil ?_; intro _ hw1; obtain ⟨nq, hw2⟩ := hw1; subst hw2; have HBd := Lib.hid (HB.out.drewN nq); have HSd := Lib.hid (zai HS.out nq); have HXd := Lib.hid (zai HX.out nq)
        go_wp2_with fail
        go_roundw
        case rel => first | exact ⟨q + 1, S2, rfl, by rw [Int.natCast_add]; rfl, hq2, HLR, HUQ, HQ2, HBd, HSd, HXd⟩ | ((repeat apply Exists.intro); exact ⟨⟨q + 1, S2, rfl, by rw [Int.natCast_add]; rfl, hq2, HLR, HUQ, HQ2, HBd, HSd, HXd⟩, rfl⟩)
        case measure => exact hmf
     ·have hqb : decide ((q : Int) < (ps.length : Int)) = false := decide_eq_false (by omega)
      have HLRd := Lib.hid (HLR.out.done (fun p hp h0 he => by
       obtain ⟨t, ht, e⟩ := List.getElem_of_mem hp; exact HQ.out t (by omega) p (by rw [← e]; exact List.getElem?_eq_getElem ht) h0 he))
      have HSV : Hid (van S2 y = true) := Lib.hid (HUQ.out y HYM.out); have HPn : Hid (∀ j, j < i → ∀ r, row[j]? = some r → Van l.length ps r.f0.toNat ∧ van S2 r.f0.toNat = true) := Lib.hid (fun j hj r hr => ⟨(HP.out j hj r hr).1, HUQ.out _ (HUP.out _ (HP.out j hj r hr).2)⟩)
      clear HLR HP; have HLR := HLRd; have HP := HPn; clear HLRd HPn; have nz := (zaa (HB.out.blk HN.out hns) y).trans (bl_get (by rw [HNL.out]; exact hyK))
      cases hvy : van N y with
      | true =>
       rw [hvy] at nz; have HPx : Hid (∀ j, j < i + 1 → ∀ r, row[j]? = some r → Van l.length ps r.f0.toNat ∧ van S2 r.f0.toNat = true) := Lib.hid (fun j hj r hr => by
        by_cases e : j = i
        ·subst e; rw [HRI.out] at hr; injection hr with hr; rw [← hr, HY.out]; exact ⟨(HV.out y).1 hvy, HSV.out⟩
        ·exact HP.out j (by omega) r hr)
       go_wp2_with fail
       go_roundw
       case rel => exact ⟨i + 1, S2, rfl, by rw [Int.natCast_add]; rfl, hi2, HLR, HPx, HB, HS, HX⟩
       case measure => exact hme
      | false =>
       rw [hvy] at nz; have HH : Hid (HeadsIn l.length ps S2 row) := Lib.hid (heads_stop hil (fun j hj r hr => by
        by_cases e : j = i
        ·subst e; rw [HRI.out] at hr; injection hr with hr; rw [← hr, HY.out]; exact HSV.out
        ·exact (HP.out j (by omega) r hr).2) (fun h => by
         rw [HY.out] at h; have := (HV.out y).2 h; rw [hvy] at this; cases this))
       go_wp2_with fail
       go_ret; exact ⟨rfl, S2, HLR.out, HH.out, HB.out, HS.out⟩
  ·have hib : decide ((i : Int) < (row.length : Int)) = false := decide_eq_false (by omega)
   have HH : Hid (HeadsIn l.length ps S1 row) := Lib.hid (heads_all (fun j hj r hr => (HP.out j (by omega) r hr).2))
   go_wp2_with fail
   go_ret; exact ⟨rfl, S1, HLR.out, HH.out, HB.out, HS.out⟩
theorem heap110 : Kd.Heap k110 := Kd.heap_iso _ (Kd.heap_pair (Kd.heap_int .i64) (Kd.heap_pair Kd.heap_string Kd.heap_string))
theorem heap77 : Kd.Heap k77 := Kd.heap_iso _ (Kd.heap_pair (Kd.heap_int .i64) (Kd.heap_slice 110 heap110))
def outN (S : List Bool) : Nat → Nat
 | 0 => 0
 | t + 1 => if van S t = true then outN S t ||| 2 ^ t else outN S t
theorem outN_lt (S : List Bool) : ∀ t, outN S t < 2 ^ t
 | 0 => by simp [outN]
 | t + 1 => by
  have h := outN_lt S t; have h2 : 2 ^ t < 2 ^ (t + 1) := Nat.pow_lt_pow_right (by decide) (Nat.lt_succ_self t)
  unfold outN
  split
  ·exact Nat.or_lt_two_pow (Nat.lt_trans h h2) h2
  ·exact Nat.lt_trans h h2
theorem outN_bit (S : List Bool) (b : Nat) : ∀ t, (outN S t).testBit b = true ↔ b < t ∧ van S b = true
 | 0 => by simp [outN]
 | t + 1 => by
  have h := outN_bit S b t; unfold outN; by_cases hv : van S t = true
  ·rw [if_pos hv, Nat.testBit_or, Bool.or_eq_true, h, Nat.testBit_two_pow, decide_eq_true_eq]; constructor
   ·rintro (⟨h1, h2⟩ | rfl)
    ·exact ⟨by omega, h2⟩
    ·exact ⟨by omega, hv⟩
   ·rintro ⟨h1, h2⟩; by_cases e : t = b
    ·exact .inr e
    ·exact .inl ⟨by omega, h2⟩
  ·rw [if_neg hv, h]; constructor
   ·rintro ⟨h1, h2⟩; exact ⟨by omega, h2⟩
   ·rintro ⟨h1, h2⟩; refine ⟨?_, h2⟩; by_cases e : t = b
    ·subst e; exact absurd h2 hv
    ·omega
theorem lead_all {T K : Nat} {ps : List S77} {S S' : List Bool} {row : List S110} (h : LR T ps K S S' (Head T ps row) (fun _ => False)) (hh : HeadsIn T ps S' row) (h0 : ∀ x, van S x = false) (x : Nat) : van S' x = true ↔ ∃ y, Head T ps row y ∧ Lead T ps y x :=
 ⟨fun hx => h.reach x hx (h0 x), fun ⟨y, hy, hl⟩ => lead_in (fun z hz => h.closed z hz (h0 z) (fun f => f)) y x hl (hh y hy)⟩
set_option maxRecDepth 100000 in
set_option maxHeartbeats 4000000 in
theorem begins_any (A : Option Addr) (c : Nat) (l : List S112) (B : Option Addr) (d : Nat) (m : List S115) (C : Option Addr) (e : Nat) (ps : List S77) (w : World) (hg : GR w A c l B d m C e ps) (hf : Bld.Fair l.length m.length ps) (KK : Nat) (hK : KK = l.length + m.length) (N : List Bool) (hNl : N.length = KK) (hv : ∀ k, van N k = true ↔ Van l.length ps k) (nb : Nat) (hN : w.heap[nb]? = some (.cells (bl N) 4 (0, 0)))
  (Ar : Option Addr) (cr : Nat) (row : List S110) (hR : k110.C w Ar row.length row) (hrl : row.length ≤ 1048576) (hrr : ∀ r ∈ row, 0 ≤ r.f0 ∧ r.f0 < (KK : Int)) :
  Calls Tryd.prog 124 #[.agg #[.slice A l.length c, .slice B m.length d, .slice C ps.length e], .slice (some ⟨nb, 0, none⟩) KK KK, .slice Ar row.length cr] w fun e' w' => ∃ v : Nat, e' = .returned (.int .u64 (v : Int)) ∧ Below w.heap.size w w' ∧ v < 2 ^ l.length ∧ ∀ t, v.testBit t = true ↔ t < l.length ∧ ∃ h, Head l.length ps row h ∧ Lead l.length ps h t := by
 have t1 := hf.t1; have t64 := hf.t64; have m128 := hf.m128; have hK192 : KK ≤ 192 := by omega
 have hw0 : IntKind.i64.wrap ((l.length : Int) + (m.length : Int)) = (KK : Int) := by rw [IntWalk.i64_in _ (by omega)]; omega
 have hmk : ∀ W : World, (Instr.makeSlice 226 (.int .i64 (KK : Int)) (.int .i64 (KK : Int))).run Tryd.prog W = .ok (.slice (some ⟨W.heap.size, 0, none⟩) KK KK) (W.alloc (.cells (bl (List.replicate KK false)) 4)) := fun W => by
  rw [← bl_new, ← List.toArray_replicate, ← made_one]; exact run_make_row' 226 4 (.bool false) 1 Tryd.underlying226 info4 rfl .i64 .i64 KK (by omega) (by omega) W
 have h00 : ∀ x, van (List.replicate KK false) x = false := fun x => by
  unfold van; rw [List.getD_eq_getElem?_getD, List.getElem?_replicate]
  split <;> rfl
 have hnl := zba hN; have HLD : Hid (∀ (V : World), Below w.heap.size w V → w.heap.size ≤ V.heap.size → Calls Tryd.prog 133 #[.agg #[.slice A l.length c, .slice B m.length d, .slice C ps.length e], .slice (some ⟨nb, 0, none⟩) KK KK, .slice Ar row.length cr, .slice (some ⟨V.heap.size, 0, none⟩) KK KK] (V.alloc (.cells (bl (List.replicate KK false)) 4)) (RetLead l.length KK ps (List.replicate KK false) row V.heap.size (V.alloc (.cells (bl (List.replicate KK false)) 4)))) := Lib.hid (fun V hb hsz => by
  have hb2 := zac hb (.cells (bl (List.replicate KK false)) 4); exact leads_any A c l B d m C e ps hf KK hK N hNl hv nb V.heap.size (by omega) _ (List.replicate KK false) Ar cr row (V.alloc (.cells (bl (List.replicate KK false)) 4)) (Nat.le_refl _) List.length_replicate
   (Kd.F_mono (Kd.F_step (Kd.C_F heap77 hg.hC) (fun k hk _ => hb2.block k hk)) (fun k hk => by omega)) (zak hN hb2) (Kd.F_mono (Kd.F_step (Kd.C_F heap110 hR) (fun k hk _ => hb2.block k hk)) (fun k hk => by omega)) hrl hrr (zau V _))
 have HB0 := Lib.hid (zac (Below.refl w.heap.size w) (.cells #[.slice A l.length c, .slice B m.length d, .slice C ps.length e] 51)); have HX0 := Lib.hid (zau w (.cells #[.slice A l.length c, .slice B m.length d, .slice C ps.length e] 51)); have H00 := Lib.hid h00; have HKE := Lib.hid hK; clear hg hf hK hNl hv hN hR hrr hnl h00
 go_enter Tryd.func124, Tryd.ntmps124
 go_wp2_with ((with_reducible refine gate_ (.fieldAddr 51 (.tmp 3) 0) rfl ?_); refine Hid.out ?_)
 refine Lib.hid ?_; generalize w.alloc (.cells #[.slice A l.length c, .slice B m.length d, .slice C ps.length e] 51) = V0 at *; have x0 := zaa HX0.out 0; have x1 := zaa HX0.out 1; simp at x0 x1
 go_wp2_with ((with_reducible refine gate_ (.load 51 (.tmp 3)) rfl ?_); refine Hid.out ?_)
 refine Lib.hid ?_; have hba := zac (Below.refl V0.heap.size V0) (.cells (bl (List.replicate KK false)) 4); have HX1 := Lib.hid (zak HX0.out hba); have HB1 := Lib.hid (zam HB0.out hba); have HCL := Lib.hid (HLD.out V0 HB0.out HB0.out.size); have hgs := zba HX0.out; clear x0 x1 hba HLD hmk HX0; have x0 := zaa HX1.out 0; have x1 := zaa HX1.out 1; have x2 := zaa HX1.out 2; simp at x0 x1 x2; generalize V0.alloc (.cells (bl (List.replicate KK false)) 4) = V1 at *; have hsz := HB0.out.size; generalize V0.heap.size = sb at *
 go_wp2_with (go_at_call 133; refine Hid.out ?_)
 refine Lib.hid ?_; refine (HCL.out).mono ?_; rintro e1 V2 ⟨rfl, S', hlr, hh, hbl, hsb⟩; have hall := lead_all hlr hh H00.out; have HALL := Lib.hid hall; have HSL := Lib.hid hlr.len; have HS := Lib.hid hsb; have HX := Lib.hid (hbl.blk HX1.out (by omega))
 have HB : Hid (Below w.heap.size w V2) := Lib.hid ⟨hbl.os.trans HB1.out.os, hbl.tape.trans HB1.out.tape, hbl.output.trans HB1.out.output, Nat.le_trans HB1.out.size hbl.size, fun k hk => (hbl.block k (Nat.lt_of_lt_of_le hk HB1.out.size) (by omega)).trans (HB1.out.block k hk)⟩
 clear hlr hh hbl hsb hall HX1 HB1 HCL x0 x1 x2 HB0
 go_wp2_with fail
 go_loopw [8, 9] (fun v8 v9 w' => ∃ t : Nat, v9 = .int .i64 (t : Int) ∧ v8 = .int .u64 ((outN S' t : Nat) : Int) ∧ t ≤ l.length ∧ w' = V2) (fun v8 v9 _ => l.length - (intOf v9).toNat)
 case atStart => exact ⟨0, rfl, rfl, Nat.zero_le _, rfl⟩
 case round =>
  obtain ⟨t, rfl, rfl, ht, rfl⟩ := hrel; have x0 := zaa HX.out 0; simp at x0; by_cases htl : t < l.length
  ·have hib : decide ((t : Int) < (l.length : Int)) = true := decide_eq_true (by omega)
   have hi0 : (0 : Int) ≤ (t : Int) := Int.natCast_nonneg _; have hi1 : (t : Int) < (KK : Int) := by have := HKE.out; omega
   have hi2 : decide ((t : Int) < 64) = true := decide_eq_true (by omega)
   have hiw : IntKind.i64.wrap ((t : Int) + 1) = (t : Int) + 1 := IntWalk.i64_in _ (by omega)
   have ht2 : t + 1 ≤ l.length := htl; have hme : l.length - (t + 1) < l.length - t := by omega
   have z0 := (zaa HS.out t).trans (bl_get (by rw [HSL.out]; have := HKE.out; omega))
   have hlt : outN S' t < zbi := Nat.lt_of_lt_of_le (outN_lt S' t) (pow64 (by omega))
   have htw := two_wrap (show t < 64 by omega)
   have hpt : 2 ^ t < zbi := Nat.pow_lt_pow_right (by decide) (show t < 64 by omega)
   have hor := u64_or_nat (outN S' t) (2 ^ t) hlt hpt; have huw : IntKind.u64.wrap (t : Int) = (t : Int) := by rw [IntKind.wrap_u64]; omega
   have HLT := Lib.hid hlt; clear hlt hpt; cases hs : van S' t with
   | true =>
    have HON : Hid (outN S' (t + 1) = outN S' t ||| 2 ^ t) := Lib.hid (by
     show (if van S' t = true then _ else _) = _
     rw [if_pos hs])
    rw [hs] at z0; clear hs; obtain ⟨p, hp⟩ : ∃ p : Nat, 2 ^ t = p := ⟨_, rfl⟩; rw [hp] at htw hor; have HP := Lib.hid hp; clear hp
    go_wp2_with fail
    go_roundw
    case rel => exact ⟨t + 1, by rw [Int.natCast_add]; rfl, by rw [HON.out, HP.out], ht2, trivial⟩
    case measure => exact hme
   | false =>
    have HON : Hid (outN S' (t + 1) = outN S' t) := Lib.hid (by
     show (if van S' t = true then _ else _) = _
     rw [if_neg (by rw [hs]; decide)])
    rw [hs] at z0; clear hs
    go_wp2_with fail
    go_roundw
    case rel => exact ⟨t + 1, by rw [Int.natCast_add]; rfl, by rw [HON.out], ht2, trivial⟩
    case measure => exact hme
  ·have hib : decide ((t : Int) < (l.length : Int)) = false := decide_eq_false (by omega)
   have HT : Hid (t = l.length) := Lib.hid (by omega)
   go_wp2_with fail
   go_ret; exact ⟨outN S' t, rfl, HB.out, by rw [HT.out]; exact outN_lt S' _, fun b => by rw [HT.out, outN_bit, HALL.out]⟩
theorem head_one {T : Nat} {ps : List S77} {r : S110} {h : Nat} : Head T ps [r] h ↔ r.f0.toNat = h := by
 constructor
 ·rintro ⟨u, q, v, e, -, hq⟩; cases u with
  | nil => injection e with e1 _; rw [e1]; exact hq
  | cons a u => injection e with _ e2; cases u <;> cases e2
 ·intro e; exact ⟨[], r, [], rfl, fun q hq => (by cases hq), e⟩
theorem null_len {T : Nat} {ps : List S77} {M : Nat} : (nullN T ps M (List.replicate (T + M) false)).length = T + M := by rw [nullN_len, List.length_replicate]
set_option maxRecDepth 100000 in
set_option maxHeartbeats 4000000 in
theorem first_any (A : Option Addr) (c : Nat) (l : List S112) (B : Option Addr) (d : Nat) (m : List S115) (C : Option Addr) (e : Nat) (ps : List S77) (w : World) (hg : GR w A c l B d m C e ps) (hf : Bld.Fair l.length m.length ps) (F : List Nat) (hF : ∀ x t, (fst F x).testBit t = true ↔ t < l.length ∧ Lead l.length ps x t) :
  Calls Tryd.prog 104 #[.agg #[.slice A l.length c, .slice B m.length d, .slice C ps.length e]] w fun e' w' => ∃ v, e' = .returned v ∧ kU.R 128 w' w.heap.size tru v ((List.range (l.length + m.length)).map (fst F)) ∧ Below w.heap.size w w' := by
 obtain ⟨ks, hks⟩ := (sound_ev l m ps hf).rounds; have t1 := hf.t1; have t64 := hf.t64; have m128 := hf.m128; have HKS := Lib.hid hks; have HG := Lib.hid hg; have HFR := Lib.hid hf; have HF := Lib.hid hF; have HX0 := Lib.hid (zau w (.cells #[.slice A l.length c, .slice B m.length d, .slice C ps.length e] 51)); have HB0 := Lib.hid (zac (Below.refl w.heap.size w) (.cells #[.slice A l.length c, .slice B m.length d, .slice C ps.length e] 51)); obtain ⟨KK, hK⟩ : ∃ KK, KK = l.length + m.length := ⟨_, rfl⟩; have HKE := Lib.hid hK; have hw0 : IntKind.i64.wrap ((l.length : Int) + (m.length : Int)) = (KK : Int) := by rw [IntWalk.i64_in _ (by omega)]; omega
 have hK192 : KK ≤ 192 := by omega
 have hNl := null_len (T := l.length) (ps := ps) (M := m.length); have hNv := null_says (T := l.length) (ps := ps) (M := m.length) (fun p hp => (hf.lhs p hp).2)
 have HNU : Hid (∀ W, Below w.heap.size w W → Calls Tryd.prog 103 #[.agg #[.slice A l.length c, .slice B m.length d, .slice C ps.length e]] W fun e' w' => ∃ b, e' = .returned (.slice (some ⟨b, 0, none⟩) KK KK) ∧ W.heap.size ≤ b ∧ Below W.heap.size W w' ∧ w'.heap[b]? = some (.cells (bl (nullN l.length ps m.length (List.replicate (l.length + m.length) false))) 4 (0, 0))) := Lib.hid (fun W hb => by
  rw [hK]; exact nullable_any A c l B d m C e ps W (hg.below hb) hf)
 rw [← hK] at HNU; have hNl2 := hNl; rw [← hK] at hNl; have hNv2 : ∀ k, van (nullN l.length ps m.length (List.replicate KK false)) k = true ↔ Van l.length ps k := by rw [hK]; exact hNv
 rw [← hK]; clear hNl2; generalize nullN l.length ps m.length (List.replicate KK false) = N at *; have HNL := Lib.hid hNl; have HNV := Lib.hid hNv2; clear hg hf hks hK hF hNl hNv hNv2
 go_enter Tryd.func104, Tryd.ntmps104
 go_wp2_with ((with_reducible refine gate_ (.load 51 (.tmp 1)) rfl ?_); refine Hid.out ?_)
 refine Lib.hid ?_; generalize w.alloc (.cells #[.slice A l.length c, .slice B m.length d, .slice C ps.length e] 51) = V0 at *; have x0 := zaa HX0.out 0; have x1 := zaa HX0.out 1; have x2 := zaa HX0.out 2; simp at x0 x1 x2; have hgr := HG.out.below HB0.out; have HSO := Lib.hid (trellisref11_Sound.calls ks A c l B d m C e ps true V0 hgr.hA hgr.cA hgr.hB hgr.cB hgr.hC hgr.cC HKS.out); clear hgr
 go_wp2_with (go_at_call 122; refine Hid.out ?_)
 refine Lib.hid ?_; refine (HSO.out).mono ?_; rintro e1 V1 ⟨rfl, hb⟩; have HX := Lib.hid (zak HX0.out hb); have HB := Lib.hid (zam HB0.out hb); clear hb HX0 HB0 HSO HKS x0 x1 x2; have x0 := zaa HX.out 0; have x1 := zaa HX.out 1; have x2 := zaa HX.out 2; simp at x0 x1 x2
 go_wp2_with (go_at_call 103; refine Hid.out ?_)
 refine Lib.hid ?_; refine (HNU.out V1 HB.out).mono ?_; rintro e2 V2 ⟨nb, rfl, hnb, hb, hnc⟩; have HX2 := Lib.hid (zak HX.out hb); have HB2 := Lib.hid (zam HB.out hb); have HN2 := Lib.hid hnc; clear hb hnc HX HB HNU x0 x1 x2 hnb
 go_wp2_with fail
 have HO0 : Hid (kU.R 128 V2 w.heap.size tru (.slice none 0 0) ((List.range 0).map (fst F))) := Lib.hid (Kd.R_nil _ _ _ _ _)
 go_loopw [4, 5] (fun v4 v5 w' => ∃ (i : Nat) (A4 : Option Addr) (c4 : Nat), v4 = .slice A4 i c4 ∧ v5 = .int .i64 (i : Int) ∧ i ≤ KK ∧ Hid (kU.R 128 w' w.heap.size tru (.slice A4 i c4) ((List.range i).map (fst F))) ∧ Hid (Below w.heap.size w w') ∧ Hid (w'.heap[nb]? = some (.cells (bl N) 4 (0, 0))) ∧ Hid (w'.heap[w.heap.size]? = some (Obj.cells #[.slice A l.length c, .slice B m.length d, .slice C ps.length e] 51 (0, 0)))) (fun v4 v5 _ => KK - (intOf v5).toNat)
 case atStart => exact ⟨0, none, 0, rfl, rfl, Nat.zero_le _, HO0, HB2, HN2, HX2⟩
 case round =>
  clear HO0 HB2 HN2 HX2; obtain ⟨i, A4, c4, rfl, rfl, hi, HO, HB, HN, HX⟩ := hrel; have x0 := zaa HX.out 0; have x1 := zaa HX.out 1; have x2 := zaa HX.out 2; simp at x0 x1 x2; by_cases hil : i < KK
  ·have hib : decide ((i : Int) < (KK : Int)) = true := decide_eq_true (by omega)
   have hiw : IntKind.i64.wrap ((i : Int) + 1) = (i : Int) + 1 := IntWalk.i64_in _ (by omega)
   have hi2 : i + 1 ≤ KK := hil; have hme : KK - (i + 1) < KK - i := by omega
   have hba := zac (Below.refl wr.heap.size wr) (.cells #[.int .i64 (i : Int), .string ⟨#[]⟩, .string ⟨#[]⟩] 110); have HO1 := Lib.hid (Kd.zbf HO.out hba); have HB1 := Lib.hid (zam HB.out hba); have HN1 := Lib.hid (zak HN.out hba); have HX1 := Lib.hid (zak HX.out hba); have hrow : k110.C (wr.alloc (.cells #[.int .i64 (i : Int), .string ⟨#[]⟩, .string ⟨#[]⟩] 110)) (some ⟨wr.heap.size, 0, none⟩) [(⟨(i : Int), ⟨#[]⟩, ⟨#[]⟩⟩ : S110)].length [(⟨(i : Int), ⟨#[]⟩, ⟨#[]⟩⟩ : S110)] :=
    C_lit1 (k := k110) (x := ⟨(i : Int), ⟨#[]⟩, ⟨#[]⟩⟩) (cs := [.int .i64 (i : Int), .string ⟨#[]⟩, .string ⟨#[]⟩]) (k110_mk _ _) (zau wr _)
   have HBE := Lib.hid (begins_any A c l B d m C e ps (wr.alloc (.cells #[.int .i64 (i : Int), .string ⟨#[]⟩, .string ⟨#[]⟩] 110)) (HG.out.below HB1.out) HFR.out KK HKE.out N HNL.out HNV.out nb HN1.out (some ⟨wr.heap.size, 0, none⟩) 1 [⟨(i : Int), ⟨#[]⟩, ⟨#[]⟩⟩] hrow (show 1 ≤ 1048576 by decide) (fun r hr => by
    rw [List.mem_singleton.1 hr]; exact ⟨Int.natCast_nonneg _, by show (i : Int) < KK; omega⟩))
   clear hba hrow HO HB HN HX
   go_wp2_with (go_at_call 124; refine Hid.out ?_)
   refine Lib.hid ?_; refine (HBE.out).mono ?_; rintro e3 V3 ⟨v, rfl, hb, hvl, hvb⟩; have hve : v = fst F i := by
    apply Nat.eq_of_testBit_eq; intro t; have h1 := hvb t; have h2 := HF.out i t; have h3 : v.testBit t = true ↔ (fst F i).testBit t = true := by
     rw [h1, h2]; constructor
     ·rintro ⟨a1, h, hh, hl⟩; rw [head_one] at hh; simp only [Int.toNat_natCast] at hh; rw [hh]; exact ⟨a1, hl⟩
     ·rintro ⟨a1, a2⟩; exact ⟨a1, i, head_one.2 (by simp only [Int.toNat_natCast]), a2⟩
    cases c1 : v.testBit t <;> cases c2 : (fst F i).testBit t <;> simp_all
   have HVE := Lib.hid hve; have HO3 := Lib.hid (Kd.zbf HO1.out hb); have HB3 := Lib.hid (zam HB1.out hb); have HN3 := Lib.hid (zak HN1.out hb); have HX3 := Lib.hid (zak HX1.out hb); clear hb hvl hvb hve HBE HO1 HB1 HN1 HX1 x0 x1 x2; have HO4 := Lib.hid (Kd.zbk HO3.out (.cells #[.int .u64 (v : Int)] 128)); have HB4 := Lib.hid (zac HB3.out (.cells #[.int .u64 (v : Int)] 128)); have HN4 := Lib.hid (zad HN3.out (.cells #[.int .u64 (v : Int)] 128)); have HX4 := Lib.hid (zad HX3.out (.cells #[.int .u64 (v : Int)] 128)); have HL4 := Lib.hid (C_lit1 (k := kU) (x := v) (cs := [.int .u64 (v : Int)]) rfl (zau V3 (.cells #[.int .u64 (v : Int)] 128))); have hbo : (((List.range i).map (fst F)).length + 1) * 8 ≤ 140737488355328 := by rw [List.length_map, List.length_range]; omega
   go_wp2_with ((with_reducible refine zay (b := .append) (xs := #[.tmp 29, .tmp 31]) rfl ?_); refine Hid.out ?_)
   refine Lib.hid ?_
   at_builtin
   refine Kd.zbj kU (w0 := w) w.heap.size rfl (.tmp 29) (.tmp 31) 168 128 (.int .u64 0) 8 rfl Tryd.underlying168 info128 rfl (by decide) (by decide) _ ((List.range i).map (fst F)) [v] (some ⟨V3.heap.size, 0, none⟩) 1 1 tru (fun _ => False) rfl rfl HO4.out HL4.out (fun _ _ h => h) (fun _ h => h.elim) (fun _ _ => trivial) HB4.out HB4.out.size hbo ?_
   intro v5 w5 ho1 hb1 hg1 hat1; have hls : (List.range i).map (fst F) ++ [v] = (List.range (i + 1)).map (fst F) := by rw [List.range_succ, List.map_append, HVE.out]; rfl
   rw [hls] at ho1; obtain ⟨A5, c5, e5, -, -⟩ := Kd.zbb ho1; rw [List.length_map, List.length_range] at e5; subst e5; have HO5 := Lib.hid ho1; have HB5 := Lib.hid hb1; have HN5 := Lib.hid (zas HN4.out hg1 (Kd.R_ne HO4.out HN4.out (by decide)))
   have HX5 := Lib.hid (zas HX4.out hg1 (Kd.R_ne HO4.out HX4.out (by decide)))
   clear ho1 hb1 hg1 hat1 hls hbo HO4 HB4 HN4 HX4 HL4 HO3 HB3 HN3 HX3
   go_wp2_with fail
   go_roundw
   case rel => exact ⟨i + 1, A5, c5, rfl, by rw [Int.natCast_add]; rfl, hi2, HO5, HB5, HN5, HX5⟩
   case measure => exact hme
  ·have hib : decide ((i : Int) < (KK : Int)) = false := decide_eq_false (by omega)
   have HI : Hid (i = KK) := Lib.hid (by omega)
   go_wp2_with fail
   go_ret; exact ⟨_, rfl, by rw [← HI.out]; exact HO.out, HB.out⟩
end Doc
end Go.Proofs.YtcijanmckhlpiaaDoor
