import Derived.Test.YtcijanmckhlpiaaPPaintClassesx2
import Derived.Test.YtcijanmckhlpiaaPPaintClassesx3
import Derived.Test.YtcijanmckhlpiaaPPaintClassesx4
namespace Go.Proofs.Ytcijanmckhlpiaa
open Go.RowKit Go.Proofs.YtcijanmckhlpiaaW.PrintWords Go.Proofs.YtcijanmckhlpiaaW.PrintLast Go.Proofs.YtcijanmckhlpiaaW.PrintMore Go.Proofs.Ytcijanmckhlpiaa.PPaintClasses
set_option linter.unusedVariables false
set_option linter.unusedSimpArgs false
namespace Paint

theorem w64_nat {i : Nat} (h : i + 1 ≤ 9223372036854775807) : wrap64 ((i : Int) + 1) = ((i + 1 : Nat) : Int) := by unfold wrap64; omega
theorem rdT_get (row : List S76) (i : Nat) (h : i < row.length) : rd_T76 row (i : Int) = row[i] := by
  unfold rd_T76
  rw [Int.toNat_natCast, List.getD_eq_getElem?_getD, List.getElem?_eq_getElem h]; rfl
theorem rdT119_get (row : List S119) (i : Nat) (h : i < row.length) : rd_T119 row (i : Int) = row[i] := by
  unfold rd_T119
  rw [Int.toNat_natCast, List.getD_eq_getElem?_getD, List.getElem?_eq_getElem h]; rfl

/-! ### forests as lists: how far n trees go -/
/-- What is left of a list behind n trees. -/
def par : Nat → List S76 → Option (List S76)
  | 0, l => some l
  | _ + 1, [] => none
  | n + 1, x :: l => if x.f5 < 0 then none else par (n + x.f5.toNat) l
/-- Is a list a forest, of whose open nodes M children are still to come? -/
def run : Nat → List S76 → Bool
  | M, [] => M == 0
  | M, x :: l => if x.f5 < 0 then false else run (M - 1 + x.f5.toNat) l
theorem par_zero (l : List S76) : par 0 l = some l := by cases l <;> rfl
theorem par_add (l : List S76) : ∀ m n : Nat, par (m + n) l = (par m l).bind (par n) := by
  induction l with
  | nil =>
    intro m n
    cases m with
    | zero => rw [Nat.zero_add, par_zero]; rfl
    | succ m => rw [show m + 1 + n = (m + n) + 1 by omega]; rfl
  | cons x l ih =>
    intro m n
    cases m with
    | zero => rw [Nat.zero_add, par_zero]; rfl
    | succ m =>
      rw [show m + 1 + n = (m + n) + 1 by omega]
      unfold par
      by_cases h : x.f5 < 0
      · simp only [if_pos h]; rfl
      · simp only [if_neg h]
        rw [show m + n + x.f5.toNat = (m + x.f5.toNat) + n by omega]
        exact ih _ _
theorem par_suffix (l : List S76) : ∀ (n : Nat) (r : List S76), par n l = some r → n + r.length ≤ l.length ∧ r = l.drop (l.length - r.length) := by
  induction l with
  | nil =>
    intro n r h
    cases n with
    | zero => rw [par_zero] at h; injection h with h; subst h; simp
    | succ n => cases h
  | cons x l ih =>
    intro n r h
    cases n with
    | zero => rw [par_zero] at h; injection h with h; subst h; simp
    | succ n =>
      unfold par at h
      by_cases hx : x.f5 < 0
      · rw [if_pos hx] at h; cases h
      · rw [if_neg hx] at h
        obtain ⟨h1, h2⟩ := ih _ _ h
        refine ⟨by simp only [List.length_cons]; omega, ?_⟩
        rw [List.length_cons, show l.length + 1 - r.length = (l.length - r.length) + 1 by omega, List.drop_succ_cons]
        exact h2
theorem run_par (l : List S76) : ∀ M : Nat, run M l = (match par M l with | some r => run 0 r | none => false) := by
  induction l with
  | nil =>
    intro M
    cases M with
    | zero => rw [par_zero]
    | succ M => rfl
  | cons x l ih =>
    intro M
    cases M with
    | zero => rw [par_zero]
    | succ M =>
      have e1 : run (M + 1) (x :: l) = if x.f5 < 0 then false else run (M + x.f5.toNat) l := rfl
      have e2 : par (M + 1) (x :: l) = if x.f5 < 0 then none else par (M + x.f5.toNat) l := rfl
      rw [e1, e2]
      by_cases hx : x.f5 < 0
      · simp only [if_pos hx]
      · simp only [if_neg hx]
        exact ih _
/-- The place behind n trees from a place on. -/
def pend (t : List S76) (n a : Nat) : Option Nat := (par n (t.drop a)).map fun r => t.length - r.length
theorem pend_zero {t : List S76} {a : Nat} (h : a ≤ t.length) : pend t 0 a = some a := by
  unfold pend
  rw [par_zero, Option.map_some, List.length_drop]
  congr 1; omega
theorem pend_out {t : List S76} {a : Nat} (h : t.length ≤ a) (n : Nat) : pend t (n + 1) a = none := by
  unfold pend
  rw [List.drop_eq_nil_of_le h]; rfl
theorem pend_succ {t : List S76} {a : Nat} (h : a < t.length) (n : Nat) : pend t (n + 1) a = if (t[a]).f5 < 0 then none else pend t (n + (t[a]).f5.toNat) (a + 1) := by
  unfold pend
  rw [List.drop_eq_getElem_cons h]
  conv => lhs; unfold par
  split <;> rfl
theorem pend_spec {t : List S76} {n a b : Nat} (ha : a ≤ t.length) (h : pend t n a = some b) : a + n ≤ b ∧ b ≤ t.length ∧ par n (t.drop a) = some (t.drop b) := by
  unfold pend at h
  cases hp : par n (t.drop a) with
  | none => rw [hp] at h; cases h
  | some r =>
    rw [hp, Option.map_some] at h
    injection h with h
    obtain ⟨h1, h2⟩ := par_suffix _ _ _ hp
    rw [List.length_drop] at h1 h2
    refine ⟨by omega, by omega, ?_⟩
    rw [List.drop_drop] at h2
    rw [← h, h2, List.length_drop]
    congr 1; congr 1; omega
theorem pend_add {t : List S76} {a : Nat} (ha : a ≤ t.length) (m n : Nat) : pend t (m + n) a = (pend t m a).bind (pend t n) := by
  cases hm : pend t m a with
  | none =>
    unfold pend at hm ⊢
    rw [par_add]
    cases hp : par m (t.drop a) with
    | none => rfl
    | some r => rw [hp] at hm; cases hm
  | some b =>
    obtain ⟨_, _, h3⟩ := pend_spec ha hm
    show _ = pend t n b
    unfold pend
    rw [par_add, h3]; rfl
theorem run_at {t : List S76} {a : Nat} (h : a < t.length) : run 0 (t.drop a) = (match pend t 1 a with | some b => run 0 (t.drop b) | none => false) := by
  have e : run 0 (t.drop a) = run 1 (t.drop a) := by rw [List.drop_eq_getElem_cons h]; rfl
  rw [e, run_par]
  cases hp : pend t 1 a with
  | none =>
    unfold pend at hp
    cases hq : par 1 (t.drop a) with
    | none => rfl
    | some r => rw [hq] at hp; cases hp
  | some b => rw [(pend_spec (by omega) hp).2.2]

/-! ### the document's forest -/
/-- Trees stand for the nodes from a place up to one. -/
inductive RepL (t : List S76) : List S119 → Nat → Nat → Prop
  | nil (a : Nat) : a ≤ t.length → RepL t [] a a
  | cons (T : S119) (L : List S119) (a c b : Nat) (h : a < t.length) : pend t 1 a = some c → T.f0 = t[a] → T.f2 = (a : Int) → RepL t T.f1 (a + 1) c → RepL t L c b → RepL t (T :: L) a b
theorem RepL.le {t : List S76} {L : List S119} {a b : Nat} (h : RepL t L a b) : a + L.length ≤ b ∧ b ≤ t.length := by
  induction h with
  | nil a h => exact ⟨Nat.le_refl _, h⟩
  | cons T L a c b h hp h0 h2 _ _ ih1 ih2 =>
    have := pend_spec (by omega) hp
    simp only [List.length_cons]
    omega
/-! ### the document's forest, computed -/
def tup (x : S76) (L : List S119) (i n : Int) (b : Bool) : ByteArray × Bool × ByteArray × Int × Int × Int × Int × (List (S119)) × Int × Int × Bool := (x.f0, x.f1, x.f2, x.f3, x.f4, x.f5, x.f6, L, i, n, b)
def tup0 (n : Int) : ByteArray × Bool × ByteArray × Int × Int × Int × Int × (List (S119)) × Int × Int × Bool := ((⟨#[]⟩ : ByteArray), false, (⟨#[]⟩ : ByteArray), 0, 0, 0, 0, ([] : List (S119)), 0, n, false)
abbrev tl0 (k : Nat) (t : List S76) (a c i : Int) (x : S76) (acc : List S119) : Option (ByteArray × Bool × ByteArray × Int × Int × Int × Int × (List (S119)) × Int × Int × Bool) := trellisref15_take.l0 k t a c i x.f0 x.f1 x.f2 x.f3 x.f4 x.f5 x.f6 acc a
theorem take_loop {t : List S76} (hb : t.length ≤ 1048576) {a : Nat} (ha : a < t.length) (hk : 0 ≤ (t[a]).f5) (hk2 : (t[a]).f5 ≤ t.length)
    (ih : ∀ c, a < c → c ≤ t.length → (∀ b, pend t 1 c = some b → ∃ L, ∃ hc : c < t.length, RepL t L (c + 1) b ∧ Ev (fun k => trellisref15_take.f k t (c : Int)) (tup t[c] L c b true)) ∧ (pend t 1 c = none → Ev (fun k => trellisref15_take.f k t (c : Int)) (tup0 c))) :
    ∀ m c i : Nat, ∀ acc : List S119, (i + m : Int) = (t[a]).f5 → a < c → c ≤ t.length → acc.length ≤ c →
      (∀ b, pend t m c = some b → ∃ L, RepL t L c b ∧ Ev (fun k => tl0 k t a c i t[a] acc) (tup t[a] (acc ++ L) a b true)) ∧ (pend t m c = none → Ev (fun k => tl0 k t a c i t[a] acc) (tup0 a)) := by
  intro m
  induction m with
  | zero =>
    intro c i acc hi hc hcl hal
    refine ⟨fun b hp => ?_, fun hp => ?_⟩
    · rw [pend_zero hcl] at hp
      injection hp with hp
      subst hp
      refine ⟨[], .nil c hcl, ?_⟩
      rw [List.append_nil]
      refine Ev.step (f := fun _ => some (tup t[a] acc a c true)) (fun k => ?_) (Ev.now _)
      simp only [tl0, trellisref15_take.l0]
      rw [if_pos (by omega), if_pos (by omega), rdT_get t a ha, if_neg (by omega)]; rfl
    · rw [pend_zero hcl] at hp; cases hp
  | succ m ihm =>
    intro c i acc hi hc hcl hal
    have hs : ∀ k, tl0 (k + 1) t a c i t[a] acc = (trellisref15_take.f k t (c : Int)).bind fun bt157 => (if bt157.2.2.2.2.2.2.2.2.2.2 = true then (trellisref15_take.l0 k t a bt157.2.2.2.2.2.2.2.2.2.1 ((i + 1 : Nat) : Int) (t[a]).f0 (t[a]).f1 (t[a]).f2 (t[a]).f3 (t[a]).f4 (t[a]).f5 (t[a]).f6 (acc ++ [(⟨(⟨bt157.1, bt157.2.1, bt157.2.2.1, bt157.2.2.2.1, bt157.2.2.2.2.1, bt157.2.2.2.2.2.1, bt157.2.2.2.2.2.2.1⟩ : S76), bt157.2.2.2.2.2.2.2.1, bt157.2.2.2.2.2.2.2.2.1⟩ : S119)]) a) else some (tup0 a)) := by
      intro k
      simp only [tl0, trellisref15_take.l0]
      rw [if_pos (by omega), if_pos (by omega), rdT_get t a ha, if_pos (by omega), w64_nat (by omega)]
      congr 1
      funext bt
      rw [if_pos (show acc.length < 1353245080339 by omega)]; rfl
    have hpa : pend t (m + 1) c = (pend t 1 c).bind (pend t m) := by rw [Nat.add_comm]; exact pend_add hcl 1 m
    obtain ⟨ih1, ih2⟩ := ih c hc hcl
    cases hp1 : pend t 1 c with
    | none =>
      rw [hp1] at hpa
      refine ⟨fun b hp => (by rw [hpa] at hp; cases hp), fun _ => ?_⟩
      refine Ev.step hs (Ev.bind (ih2 hp1) ?_)
      exact Ev.congr (fun k => by rw [if_neg (by simp [tup0])]) (Ev.now _)
    | some c' =>
      rw [hp1] at hpa
      obtain ⟨L1, hcl', hR, hE⟩ := ih1 c' hp1
      have hsp := pend_spec hcl hp1
      have hst : Ev (fun k => tl0 k t a c' ((i + 1 : Nat) : Int) t[a] (acc ++ [⟨t[c], L1, (c : Int)⟩])) = Ev (fun k => tl0 k t a c' ((i + 1 : Nat) : Int) t[a] (acc ++ [⟨t[c], L1, (c : Int)⟩])) := rfl
      obtain ⟨g1, g2⟩ := ihm c' (i + 1) (acc ++ [⟨t[c], L1, (c : Int)⟩]) (by push_cast; omega) (by omega) hsp.2.1 (by rw [List.length_append, List.length_singleton]; omega)
      refine ⟨fun b hp => ?_, fun hp => ?_⟩
      · obtain ⟨L2, hR2, hE2⟩ := g1 b (by rw [← hp, hpa]; rfl)
        refine ⟨⟨t[c], L1, (c : Int)⟩ :: L2, .cons _ _ _ c' _ hcl' hp1 rfl rfl hR hR2, ?_⟩
        rw [List.append_cons]
        refine Ev.step hs (Ev.bind hE ?_)
        exact Ev.congr (fun k => by rw [if_pos (by rfl)]; rfl) hE2
      · have hE2 := g2 (by rw [← hp, hpa]; rfl)
        refine Ev.step hs (Ev.bind hE ?_)
        exact Ev.congr (fun k => by rw [if_pos (by rfl)]; rfl) hE2
theorem take_ev {t : List S76} (hb : t.length ≤ 1048576) : ∀ d a : Nat, t.length - a ≤ d → a ≤ t.length → (∀ b, pend t 1 a = some b → ∃ L, ∃ hc : a < t.length, RepL t L (a + 1) b ∧ Ev (fun k => trellisref15_take.f k t (a : Int)) (tup t[a] L a b true)) ∧ (pend t 1 a = none → Ev (fun k => trellisref15_take.f k t (a : Int)) (tup0 a)) := by
  have hj : ∀ a : Nat, Ev (fun k => trellisref15_take.j0 k t (a : Int) true) (tup0 a) := fun a =>
    Ev.step (f := fun _ => some (tup0 a)) (fun k => by simp only [trellisref15_take.j0]; rw [if_pos trivial]; rfl) (Ev.now _)
  intro d
  induction d with
  | zero =>
    intro a hd hal
    have hae : a = t.length := by omega
    refine ⟨fun b hp => (by rw [pend_out (by omega) 0] at hp; cases hp), fun _ => ?_⟩
    exact Ev.step (fun k => by simp only [trellisref15_take.f]; rw [if_pos (by omega)]) (hj a)
  | succ d ih =>
    intro a hd hal
    rcases Nat.lt_or_ge a t.length with ha | ha
    · have hps := pend_succ ha 0
      rw [Nat.zero_add] at hps
      by_cases h0 : (t[a]).f5 < 0
      · rw [if_pos h0] at hps
        refine ⟨fun b hp => (by rw [hps] at hp; cases hp), fun _ => ?_⟩
        exact Ev.step (fun k => by simp only [trellisref15_take.f]; rw [if_neg (by omega), if_pos (by omega), if_pos (by omega), rdT_get t a ha, if_pos h0]) (hj a)
      · rw [if_neg h0, Nat.zero_add] at hps
        by_cases h1 : (t[a]).f5 > (t.length : Int)
        · refine ⟨fun b hp => ?_, fun _ => ?_⟩
          · rw [hps] at hp
            have := pend_spec (by omega) hp
            omega
          · exact Ev.step (fun k => by simp only [trellisref15_take.f]; rw [if_neg (by omega), if_pos (by omega), if_pos (by omega), rdT_get t a ha, if_neg h0, decide_eq_true h1]) (hj a)
        · have hE : ∀ r, Ev (fun k => tl0 k t a ((a + 1 : Nat) : Int) ((0 : Nat) : Int) t[a] []) r → Ev (fun k => trellisref15_take.f k t (a : Int)) r := by
            intro r hr
            refine Ev.step (f := fun k => trellisref15_take.j0 k t (a : Int) false) (fun k => ?_) (Ev.step (fun k => ?_) hr)
            · simp only [trellisref15_take.f]
              rw [if_neg (by omega), if_pos (by omega), if_pos (by omega), rdT_get t a ha, if_neg h0, decide_eq_false h1]
            · simp only [trellisref15_take.j0]
              rw [if_neg (by decide), if_pos (by omega), if_pos (by omega), rdT_get t a ha, w64_nat (by omega)]; rfl
          obtain ⟨g1, g2⟩ := take_loop hb ha (by omega) (by omega) (fun c hc hcl => ih c (by omega) hcl) (t[a]).f5.toNat (a + 1) 0 [] (by omega) (by omega) (by omega) (by simp)
          refine ⟨fun b hp => ?_, fun hp => hE _ (g2 (by rw [← hps]; exact hp))⟩
          obtain ⟨L, hR, hEv⟩ := g1 b (by rw [← hps]; exact hp)
          exact ⟨L, ha, hR, hE _ hEv⟩
    · refine ⟨fun b hp => (by rw [pend_out (by omega) 0] at hp; cases hp), fun _ => ?_⟩
      exact Ev.step (fun k => by simp only [trellisref15_take.f]; rw [if_pos (by omega)]) (hj a)
theorem forest_ev {t : List S76} (hb : t.length ≤ 1048576) : ∀ d a : Nat, t.length - a ≤ d → a ≤ t.length → ∀ acc : List S119, acc.length ≤ a →
    (run 0 (t.drop a) = true → ∃ L, RepL t L a t.length ∧ Ev (fun k => trellisref15_Forest.l0 k t acc (a : Int)) (acc ++ L, true)) ∧ (run 0 (t.drop a) = false → Ev (fun k => trellisref15_Forest.l0 k t acc (a : Int)) ([], false)) := by
  intro d
  induction d with
  | zero =>
    intro a hd hal acc hac
    have hae : a = t.length := by omega
    refine ⟨fun _ => ⟨[], by rw [hae]; exact .nil _ (Nat.le_refl _), ?_⟩, fun h => ?_⟩
    · rw [List.append_nil]
      exact Ev.step (f := fun _ => some (acc, true)) (fun k => by simp only [trellisref15_Forest.l0]; rw [if_neg (by omega)]) (Ev.now _)
    · rw [hae, List.drop_length] at h; cases h
  | succ d ih =>
    intro a hd hal acc hac
    rcases Nat.lt_or_ge a t.length with ha | ha
    · have hs : ∀ k, trellisref15_Forest.l0 (k + 1) t acc (a : Int) = (trellisref15_take.f k t (a : Int)).bind fun bt174 => (if bt174.2.2.2.2.2.2.2.2.2.2 = true then (trellisref15_Forest.l0 k t (acc ++ [(⟨(⟨bt174.1, bt174.2.1, bt174.2.2.1, bt174.2.2.2.1, bt174.2.2.2.2.1, bt174.2.2.2.2.2.1, bt174.2.2.2.2.2.2.1⟩ : S76), bt174.2.2.2.2.2.2.2.1, bt174.2.2.2.2.2.2.2.2.1⟩ : S119)]) bt174.2.2.2.2.2.2.2.2.2.1) else (some (([] : List (S119)), false))) := by
        intro k
        simp only [trellisref15_Forest.l0]
        rw [if_pos (by omega)]
        congr 1
        funext bt
        rw [if_pos (show acc.length < 1353245080339 by omega)]
      obtain ⟨t1, t2⟩ := take_ev hb _ a (Nat.le_refl _) hal
      have hr := run_at ha
      cases hp : pend t 1 a with
      | none =>
        rw [hp] at hr
        refine ⟨fun h => (by rw [hr] at h; cases h), fun _ => ?_⟩
        refine Ev.step hs (Ev.bind (t2 hp) ?_)
        exact Ev.congr (fun k => by rw [if_neg (by simp [tup0])]) (Ev.now _)
      | some b =>
        rw [hp] at hr
        obtain ⟨L1, _, hR, hE⟩ := t1 b hp
        have hsp := pend_spec hal hp
        obtain ⟨g1, g2⟩ := ih b (by omega) hsp.2.1 (acc ++ [⟨t[a], L1, (a : Int)⟩]) (by rw [List.length_append, List.length_singleton]; omega)
        refine ⟨fun h => ?_, fun h => ?_⟩
        · obtain ⟨L2, hR2, hE2⟩ := g1 (by rw [← h, hr])
          refine ⟨⟨t[a], L1, (a : Int)⟩ :: L2, .cons _ _ _ b _ ha hp rfl rfl hR hR2, ?_⟩
          rw [List.append_cons]
          refine Ev.step hs (Ev.bind hE ?_)
          exact Ev.congr (fun k => by rw [if_pos (by rfl)]; rfl) hE2
        · have hE2 := g2 (by rw [← h, hr])
          refine Ev.step hs (Ev.bind hE ?_)
          exact Ev.congr (fun k => by rw [if_pos (by rfl)]; rfl) hE2
    · refine ⟨fun _ => ⟨[], by rw [show a = t.length by omega]; exact .nil _ (Nat.le_refl _), ?_⟩, fun h => ?_⟩
      · rw [List.append_nil]
        exact Ev.step (f := fun _ => some (acc, true)) (fun k => by simp only [trellisref15_Forest.l0]; rw [if_neg (by omega)]) (Ev.now _)
      · rw [List.drop_eq_nil_of_le ha] at h; cases h

/-! ### the nodes that cover a byte -/
/-- The place behind the tree at a place. -/
def en (t : List S76) (i : Nat) : Nat := (pend t 1 i).getD t.length
/-- The nodes that cover a byte: from place i on, up to e (d: how many places at most). -/
def pathS (t : List S76) (p : Int) : Nat → Nat → Nat → List Int
  | 0, _, _ => []
  | d + 1, i, e => if h : i < e ∧ i < t.length then (if (t[i]'h.2).f3 ≤ p ∧ p < (t[i]'h.2).f4 then (i : Int) :: pathS t p d (i + 1) (en t i) else pathS t p d (en t i) e) else []
theorem pathS_len (t : List S76) (p : Int) : ∀ d i e, (pathS t p d i e).length ≤ t.length - i := by
  intro d
  induction d with
  | zero => intro i e; exact Nat.zero_le _
  | succ d ih =>
    intro i e
    unfold pathS
    split
    · rename_i h
      split
      · have := ih (i + 1) (en t i)
        simp only [List.length_cons]; omega
      · have h1 := ih (en t i) e
        have h2 : i ≤ en t i := by
          unfold en
          cases hp : pend t 1 i with
          | none => exact Nat.le_of_lt h.2
          | some b => have := (pend_spec (Nat.le_of_lt h.2) hp).1; show i ≤ b; omega
        omega
    · exact Nat.zero_le _
theorem path_ev {t : List S76} (hb : t.length ≤ 1048576) (p : Int) : ∀ d a b : Nat, ∀ full : List S119, ∀ j : Nat, b - a ≤ d → j ≤ full.length → full.length ≤ 1048576 → RepL t (full.drop j) a b → Ev (fun k => trellisref15_path.l0 k full p (j : Int)) (pathS t p d a b) := by
  intro d
  induction d with
  | zero =>
    intro a b full j hd hj hf hR
    have hle := hR.le
    have hlen : (full.drop j).length = full.length - j := List.length_drop
    refine Ev.step (f := fun _ => some []) (fun k => ?_) (Ev.now _)
    simp only [trellisref15_path.l0]
    rw [if_neg (by omega)]
  | succ d ih =>
    intro a b full j hd hj hf hR
    rcases Nat.lt_or_ge j full.length with hjl | hjl
    · rw [List.drop_eq_getElem_cons hjl] at hR
      have hle := hR.le
      cases hR with
      | cons T L a c b ha hp h0 h2 hR1 hR2 =>
        have hs := pend_spec (Nat.le_of_lt ha) hp
        have hle2 := hR2.le
        have hle1 := hR1.le
        have hen : en t a = c := by unfold en; rw [hp]; rfl
        have h0' : (rd_T119 full (j : Int)).f0 = t[a] := by rw [rdT119_get full j hjl]; exact h0
        have h2' : (rd_T119 full (j : Int)).f2 = (a : Int) := by rw [rdT119_get full j hjl]; exact h2
        have h1' : (rd_T119 full (j : Int)).f1 = (full[j]).f1 := by rw [rdT119_get full j hjl]
        unfold pathS
        rw [dif_pos ⟨by omega, ha⟩]
        by_cases hc1 : (t[a]).f3 ≤ p
        · by_cases hc2 : p < (t[a]).f4
          · rw [if_pos ⟨hc1, hc2⟩]
            refine Ev.step (f := fun k => (trellisref15_path.f k (full[j]).f1 p).bind fun t194 => ((some (([(a : Int)] : List Int) : List Int)).bind fun y198 => (if y198.length + t194.length < 17592186044416 then (some (y198 ++ t194)) else (none)))) (fun k => ?_) ?_
            · simp only [trellisref15_path.l0]
              rw [if_pos (by omega), if_pos (by omega), h0', if_pos hc1, if_pos (by omega), h1', h2']
            · have hin : Ev (fun k => trellisref15_path.f k (full[j]).f1 p) (pathS t p d (a + 1) c) :=
                Ev.step (fun k => by simp only [trellisref15_path.f]; rfl) (ih (a + 1) c (full[j]).f1 0 (by omega) (Nat.zero_le _) (by omega) hR1)
              refine Ev.bind hin ?_
              have hl := pathS_len t p d (a + 1) c
              rw [hen]
              refine Ev.congr (fun k => ?_) (Ev.now _)
              rw [Option.bind_some, if_pos (by simp only [List.length_singleton]; omega)]; rfl
          · rw [if_neg (fun h => hc2 h.2), hen]
            refine Ev.step (f := fun k => trellisref15_path.l0 k full p ((j + 1 : Nat) : Int)) (fun k => ?_) (ih c b full (j + 1) (by omega) (by omega) hf hR2)
            simp only [trellisref15_path.l0]
            rw [if_pos (by omega), if_pos (by omega), h0', if_pos hc1, if_neg (by omega), w64_nat (by omega)]
        · rw [if_neg (fun h => hc1 h.1), hen]
          refine Ev.step (f := fun k => trellisref15_path.l0 k full p ((j + 1 : Nat) : Int)) (fun k => ?_) (ih c b full (j + 1) (by omega) (by omega) hf hR2)
          simp only [trellisref15_path.l0]
          rw [if_pos (by omega), if_pos (by omega), h0', if_neg hc1, w64_nat (by omega)]
    · rw [List.drop_eq_nil_of_le hjl] at hR
      cases hR with
      | nil =>
        unfold pathS
        rw [dif_neg (by omega)]
        refine Ev.step (f := fun _ => some []) (fun k => ?_) (Ev.now _)
        simp only [trellisref15_path.l0]
        rw [if_neg (by omega)]
/-- What both say: the nodes that cover a byte; none, if the list is no forest. -/
def pathAll (t : List S76) (p : Int) : List Int := if run 0 t = true then pathS t p t.length 0 t.length else []
theorem Path_ev {t : List S76} (hb : t.length ≤ 1048576) (p : Int) : Ev (fun k => trellisref15_Path.f k t p) (pathAll t p) := by
  unfold trellisref15_Path.f pathAll
  obtain ⟨f1, f2⟩ := forest_ev hb t.length 0 (by omega) (Nat.zero_le _) [] (Nat.le_refl _)
  rw [List.drop_zero] at f1 f2
  have hz : ∀ full : List S119, ∀ r, Ev (fun k => trellisref15_path.l0 k full p ((0 : Nat) : Int)) r → Ev (fun k => (trellisref15_path.f k full p).bind fun t208 => some t208) r := fun full r h =>
    Ev.bind (Ev.step (fun k => by simp only [trellisref15_path.f]; rfl) h) (Ev.now _)
  cases hr : run 0 t with
  | true =>
    obtain ⟨L, hR, hE⟩ := f1 hr
    rw [if_pos rfl]
    refine Ev.bind hE ?_
    rw [List.nil_append]
    exact hz L _ (path_ev hb p t.length 0 t.length L 0 (by omega) (Nat.zero_le _) (by have := hR.le; omega) hR)
  | false =>
    rw [if_neg (by decide)]
    refine Ev.bind (f2 hr) ?_
    refine hz [] _ (Ev.step (f := fun _ => some []) (fun k => ?_) (Ev.now _))
    simp only [trellisref15_path.l0]
    rw [if_neg (by simp)]
end Paint
end Go.Proofs.Ytcijanmckhlpiaa
