-- Texts of this seat, cut to what is used and merged (by shake.py).
import Derived.Test.YtcijanmckhlpiaaDoorSk12
set_option linter.unusedVariables false
set_option linter.unusedSimpArgs false
namespace Go.Proofs.YtcijanmckhlpiaaDoor
open Go.RowKit Go.Proofs.YtcijanmckhlpiaaDoorW.PrintWords Go.Proofs.YtcijanmckhlpiaaDoor.PTableBuilds
namespace Bld
def Lt (T : Nat) (s : List Nat) : Prop := ∀ x ∈ s, x < 2 ^ T
theorem Lt.fst {T : Nat} {s : List Nat} (h : Lt T s) (k : Nat) : Bld.fst s k < 2 ^ T := by
 unfold Bld.fst; rw [List.getD_eq_getElem?_getD]; rcases e : s[k]? with _ | x
 ·exact Nat.two_pow_pos T
 ·exact h x (List.mem_of_getElem? e)
theorem Lt.set {T : Nat} {s : List Nat} (h : Lt T s) (k : Nat) {x : Nat} (hx : x < 2 ^ T) : Lt T (s.set k x) := fun y hy => by
 rcases List.mem_or_eq_of_mem_set hy with hy | hy
 ·exact h y hy
 ·rw [hy]; exact hx
theorem Lt.of_ {T : Nat} {F : List Nat} {V : List Bool} (h : Lt T F) : ∀ (l : List S110) (out : Nat), out < 2 ^ T → (ofS F V out l).1 < 2 ^ T
 | [], out, ho => ho
 | r :: l, out, ho => by
  unfold ofS
  split
  ·exact Lt.of_ h l _ (Nat.or_lt_two_pow ho (h.fst _))
  ·exact Nat.or_lt_two_pow ho (h.fst _)
theorem Lt.lk {T : Nat} {F : List Nat} {V : List Bool} (h : Lt T F) : ∀ (l : List S110), (Bld.lk F V l).1 < 2 ^ T
 | [] => Nat.two_pow_pos T
 | r :: l => by
  unfold Bld.lk; simp only
  split
  ·exact Nat.or_lt_two_pow (h.fst _) (Lt.lk h l)
  ·exact h.fst _
theorem Lt.init (T n : Nat) (hn : n ≤ T) : Lt T (initF n) := fun x hx => by
 simp only [initF, List.mem_map, List.mem_range] at hx; obtain ⟨j, hj, rfl⟩ := hx
 split
 ·exact Nat.pow_lt_pow_right (by decide) (by omega)
 ·exact Nat.two_pow_pos T
def roomV (V : List Bool) : Nat := V.countP (fun b => !b)
def mu (s : FV) : Nat := room s.1 + roomV s.2
theorem roomV_set : ∀ (V : List Bool) (k : Nat) (b : Bool), roomV (V.set k (van V k || b)) ≤ roomV V ∧ (V.set k (van V k || b) ≠ V → roomV (V.set k (van V k || b)) < roomV V)
 | [], k, b => ⟨Nat.le_refl _, fun h => absurd rfl h⟩
 | x :: V, 0, b => by
  simp only [List.set_cons_zero, van, List.getD_cons_zero, roomV, List.countP_cons]; cases x <;> cases b <;> simp
 | x :: V, k + 1, b => by
  have ih := roomV_set V k b; simp only [List.set_cons_succ, van, List.getD_cons_succ, roomV, List.countP_cons] at ih ⊢; refine ⟨by omega, fun h => ?_⟩
  have h2 := ih.2 (fun e => h (by rw [e]))
  omega
theorem room_or {F : List Nat} (hF : ∀ x ∈ F, x < two64) {x : Nat} (hx : x < two64) (k : Nat) : room (F.set k (fst F k ||| x)) ≤ room F ∧ (F.set k (fst F k ||| x) ≠ F → room (F.set k (fst F k ||| x)) < room F) := by
 by_cases hk : k < F.length
 ·have h1 := room_set F k (fst F k ||| x) hk; have h2 := nbits_le (fst F k ||| x); by_cases he : fst F k ||| x = fst F k
  ·rw [he] at h1 ⊢; refine ⟨by omega, fun h => absurd ?_ h⟩
   unfold fst; rw [List.getD_eq_getElem?_getD, List.getElem?_eq_getElem hk]; exact List.set_getElem_self hk
  ·have h3 := nbits_lt (or_lt (fst_lt hF k) hx) he; exact ⟨by omega, fun _ => by omega⟩
 ·rw [List.set_eq_of_length_le (by omega)]
  exact ⟨Nat.le_refl _, fun h => absurd rfl h⟩
theorem stepP_mu {T : Nat} {s : FV} (h : Fit s) (p : S77) : mu (stepP T s p) ≤ mu s ∧ (stepP T s p ≠ s → mu (stepP T s p) < mu s) := by
 unfold stepP
 split
 ·exact ⟨Nat.le_refl _, fun h => absurd rfl h⟩
 ·have a := room_or h.lt (ofS_lt (V := s.2) h.lt p.f1 0 (by decide)) (T + p.f0.toNat)
  have b := roomV_set s.2 (T + p.f0.toNat) (ofS s.1 s.2 0 p.f1).2; unfold mu; refine ⟨Nat.add_le_add a.1 b.1, fun hne => ?_⟩
  simp only; by_cases h1 : s.1.set (T + p.f0.toNat) (fst s.1 (T + p.f0.toNat) ||| (ofS s.1 s.2 0 p.f1).1) = s.1
  ·by_cases h2 : s.2.set (T + p.f0.toNat) (van s.2 (T + p.f0.toNat) || (ofS s.1 s.2 0 p.f1).2) = s.2
   ·exact absurd (Prod.ext h1 h2) hne
   ·have := b.2 h2; omega
  ·have := a.2 h1; omega
theorem passP_fit {T : Nat} : ∀ (ps : List S77) {s : FV}, Fit s → Fit (passP T ps s)
 | [], s, h => h
 | p :: ps, s, h => passP_fit ps (h.step p)
theorem passP_mu {T : Nat} : ∀ (ps : List S77) {s : FV}, Fit s → mu (passP T ps s) ≤ mu s ∧ (passP T ps s ≠ s → mu (passP T ps s) < mu s)
 | [], s, h => ⟨Nat.le_refl _, fun e => absurd rfl e⟩
 | p :: ps, s, h => by
  have a := stepP_mu (T := T) h p; have b := passP_mu (T := T) ps (h.step (T := T) p); have e : passP T (p :: ps) s = passP T ps (stepP T s p) := rfl; rw [e]; refine ⟨Nat.le_trans b.1 a.1, fun hne => ?_⟩
  by_cases h1 : stepP T s p = s
  ·rw [h1] at b hne ⊢; exact b.2 hne
  ·exact Nat.lt_of_le_of_lt b.1 (a.2 h1)
theorem solveN_some {T : Nat} {ps : List S77} : ∀ (k : Nat) (s : FV), Fit s → mu s < k → ∃ r, solveN T ps k s = some r ∧ Fit r
 | 0, s, _, h => absurd h (Nat.not_lt_zero _)
 | k + 1, s, hf, h => by
  unfold solveN; by_cases he : passP T ps s = s
  ·rw [if_pos he]; exact ⟨s, rfl, hf⟩
  ·rw [if_neg he]; exact solveN_some k _ (passP_fit ps hf) (by have := (passP_mu ps hf).2 he; omega)
theorem stepP_lt {T n : Nat} {s : FV} (h : Lt n s.1) (p : S77) : Lt n (stepP T s p).1 := by
 unfold stepP
 split
 ·exact h
 ·exact h.set _ (Nat.or_lt_two_pow (h.fst _) (h.of_ _ _ (Nat.two_pow_pos n)))
theorem passP_lt {T n : Nat} : ∀ (ps : List S77) {s : FV}, Lt n s.1 → Lt n (passP T ps s).1
 | [], s, h => h
 | p :: ps, s, h => passP_lt ps (stepP_lt h p)
theorem solveN_lt {T n : Nat} {ps : List S77} : ∀ (k : Nat) (s r : FV), Lt n s.1 → solveN T ps k s = some r → Lt n r.1
 | 0, s, r, _, h => by simp [solveN] at h
 | k + 1, s, r, hs, h => by
  unfold solveN at h
  split at h
  ·cases h; exact hs
  ·exact solveN_lt k _ r (passP_lt ps hs) h
theorem solve_exists (T : Nat) (ps : List S77) (hT : T ≤ 64) : ∃ k s, solveN T ps k (initF T, noV) = some s ∧ Fit s ∧ Lt T s.1 := by
 obtain ⟨s, h1, h2⟩ := solveN_some (T := T) (ps := ps) (mu (initF T, noV) + 1) _ (Fit.init T hT) (Nat.lt_succ_self _); exact ⟨_, s, h1, h2, solveN_lt _ _ _ (Lt.init T T (Nat.le_refl _)) h1⟩
structure Spot (T M n : Nat) (x : S230) : Prop where
 prod : 0 ≤ x.f0 ∧ x.f0 < n
 sym : -1 ≤ x.f2 ∧ x.f2 < (T : Int) + M
 rest : 0 ≤ x.f3 ∧ x.f3 < ((2 ^ T : Nat) : Int)
theorem symAt_bound {T M : Nat} {l : List S110} (h : ∀ r ∈ l, 0 ≤ r.f0 ∧ r.f0 < (T : Int) + M) (hT : 1 ≤ T) (j : Nat) : -1 ≤ symAt l j ∧ symAt l j < (T : Int) + M := by
 unfold symAt
 split
 ·rename_i r hr
  have := h r (List.mem_of_getElem? hr); omega
 ·omega
theorem spotsS_ok {T M n : Nat} {F : List Nat} {V : List Bool} (hF : Lt T F) (hT : 1 ≤ T) : ∀ (ps : List S77) (i : Nat), i + ps.length ≤ n → (∀ p ∈ ps, ∀ r ∈ p.f1, 0 ≤ r.f0 ∧ r.f0 < (T : Int) + M) → ∀ x ∈ zbf F V i ps, Spot T M n x
 | [], i, _, _, x, hx => by cases hx
 | p :: ps, i, hi, hr, x, hx => by
  unfold zbf at hx; rw [List.length_cons] at hi; rcases List.mem_append.1 hx with hx | hx
  ·unfold rowAt at hx; obtain ⟨d, -, rfl⟩ := List.mem_map.1 hx; have hs := symAt_bound (M := M) (hr p (by simp)) hT d
   have hl := hF.lk (V := V) (p.f1.drop (d + 1)); rw [if_pos (Nat.zero_le _)]; unfold spotF; exact ⟨⟨Int.natCast_nonneg _, by show (i : Int) < n; omega⟩, hs, ⟨Int.natCast_nonneg _, by show (((Bld.lk F V (p.f1.drop (d + 1))).1 : Nat) : Int) < _; exact_mod_cast hl⟩⟩
  ·exact spotsS_ok hF hT ps (i + 1) (by omega) (fun q hq => hr q (by simp [hq])) x hx
theorem ofRow_lt (x : Nat) : ∀ (ps : List S77) (n : Nat), ∀ y ∈ ofRow x n ps, y < n + dots ps
 | [], n, y, hy => by cases hy
 | p :: ps, n, y, hy => by
  rw [dots_cons]; unfold ofRow at hy
  split at hy
  ·rcases List.mem_cons.1 hy with rfl | hy
   ·omega
   ·have := ofRow_lt x ps _ y hy; omega
  ·have := ofRow_lt x ps _ y hy; omega
theorem fitB_of {T M : Nat} {ps : List S77} (hf : Fair T M ps) {s : FV} (hF : Lt T s.1) : FitB T M (zbf s.1 s.2 0 ps) (ofAll M ps) := by
 have hsp := spotsS_ok (M := M) (V := s.2) hF hf.t1 ps 0 (n := ps.length) (by omega) hf.rhs
 have h64 : (2 : Nat) ^ T ≤ 18446744073709551616 := Nat.le_trans (Nat.pow_le_pow_right (by decide) hf.t64) (by decide)
 have hlen := spotsS_len s.1 s.2 ps 0; refine ⟨by rw [hlen]; exact hf.tot, fun x hx => ?_, fun x hx => (hsp x hx).sym, ofAll_len M ps, fun l hl => ?_⟩
 ·have := (hsp x hx).rest; exact ⟨this.1, Int.lt_of_lt_of_le this.2 (Int.ofNat_le.2 h64)⟩
 ·unfold ofAll at hl; obtain ⟨x, -, rfl⟩ := List.mem_map.1 hl; refine ⟨Nat.le_trans (ofRow_len x ps 0) (Nat.le_trans (dots_len ps) hf.tot), fun n hn => ?_⟩
  have := ofRow_lt x ps 0 n hn; rw [hlen]; omega
theorem spots_last {F : List Nat} {V : List Bool} {ps : List S77} (hp : 0 < ps.length) (i : Nat) (hi : i + 1 = (zbf F V 0 ps).length) : (rdSp (zbf F V 0 ps) i).f2 < 0 := by
 rcases List.eq_nil_or_concat ps with rfl | ⟨qs, q, rfl⟩
 ·simp at hp
 ·rw [List.concat_eq_append] at hi ⊢; rw [spotsS_snoc] at hi ⊢; rw [List.length_append, rowAt_len] at hi; have hg : (zbf F V 0 qs ++ rowAt F V (0 + qs.length) q.f1 0)[i]? = some (spotF F V (0 + qs.length) q.f1 q.f1.length) := by
   rw [List.getElem?_append_right (by omega), show i - (zbf F V 0 qs).length = q.f1.length by omega, rowAt_get (Nat.le_refl _), if_pos (Nat.zero_le _)]
  unfold rdSp; rw [List.getD_eq_getElem?_getD, hg]; show symAt q.f1 q.f1.length < 0; unfold symAt; rw [List.getElem?_eq_none (Nat.le_refl _)]; decide
theorem puts_pot {N : Nat} : ∀ (l : List Nat) (x : Nat) (st : List Nat × List Nat), Pot N st → x < two64 → (∀ n ∈ l, n < N) → (putsS l x st).2.length + room (putsS l x st).1 ≤ st.2.length + room st.1
 | [], x, st, _, _, _ => Nat.le_refl _
 | n :: l, x, st, h, hx, hl => by
  have a := putS_pot (todo := st.2) (n := n) (x := x) (by rw [h.len]; exact hl n (by simp)) h.lt hx
  have b := puts_pot l x (putS st.1 st.2 n x) (h.put (hl n (by simp)) hx) hx (fun m hm => hl m (by simp [hm]))
  exact Nat.le_trans b a
theorem closeN_some {T M : Nat} {sp : List S230} {of_ : List (List Nat)} (hf : FitB T M sp of_) : ∀ (k : Nat) (st : List Nat × List Nat), Pot sp.length st → st.2.length + room st.1 < k → ∃ r, closeN T sp of_ k st = some r
 | 0, st, _, h => absurd h (Nat.not_lt_zero _)
 | k + 1, (s, todo), hp, h => by
  rcases List.eq_nil_or_concat todo with rfl | ⟨td, n, rfl⟩
  ·exact ⟨s, by simp [closeN]⟩
  ·rw [List.concat_eq_append] at hp h ⊢; have hpt : Pot sp.length (s, td) := by
    have h2 := hp.pop
    rwa [List.dropLast_concat] at h2
   have hn : n < sp.length := hp.td n (by simp)
   simp only [List.length_append, List.length_singleton] at h; simp only [closeN, List.getLast?_append, List.getLast?_singleton, Option.some_or, List.dropLast_concat]
   split
   ·exact closeN_some hf k _ hpt (by simp only; omega)
   ·rename_i hs
    have hsy := hf.sym _ (rdSp_mem hn); have hst := (hf.starts _ (rdOfs_mem (of_ := of_) (n := ((rdSp sp n).f2 - T).toNat) (by have := hf.mlen; omega))).2
    have hq := Pot.puts (hf.looks_lt hpt.lt hn) _ _ hpt hst; have hm := puts_pot (rdOfs of_ ((rdSp sp n).f2 - T).toNat) (looksS sp s n) (s, td) hpt (hf.looks_lt hpt.lt hn) hst; exact closeN_some hf k _ hq (by simp only at hm; omega)
theorem Lt.put {T : Nat} {s todo : List Nat} (h : Lt T s) {n x : Nat} (hx : x < 2 ^ T) : Lt T (putS s todo n x).1 := by
 unfold putS
 split
 ·exact h
 ·exact h.set _ (Nat.or_lt_two_pow (h.fst _) hx)
theorem Lt.puts {T : Nat} {x : Nat} (hx : x < 2 ^ T) : ∀ (l : List Nat) (st : List Nat × List Nat), Lt T st.1 → Lt T (putsS l x st).1
 | [], st, h => h
 | n :: l, st, h => Lt.puts hx l (putS st.1 st.2 n x) (h.put hx)
theorem Lt.marks {T : Nat} : ∀ (l : List S166) (st : List Nat × List Nat), Lt T st.1 → (∀ m ∈ l, m.f1.toNat < 2 ^ T) → Lt T (marksS l st).1
 | [], st, h, _ => h
 | m :: l, st, h, hl => Lt.marks l (putS st.1 st.2 m.f0.toNat m.f1.toNat) (h.put (hl m (by simp))) (fun x hx => hl x (by simp [hx]))
theorem closeN_lt {T n : Nat} {sp : List S230} {of_ : List (List Nat)} (hsp : ∀ x ∈ sp, x.f3.toNat < 2 ^ n) : ∀ (k : Nat) (st : List Nat × List Nat) (r : List Nat), Lt n st.1 → closeN T sp of_ k st = some r → Lt n r
 | 0, st, r, _, h => by simp [closeN] at h
 | k + 1, (s, todo), r, hs, h => by
  have hlook : ∀ q, looksS sp s q < 2 ^ n := fun q => by
   have hr : (rdSp sp q).f3.toNat < 2 ^ n := by
    by_cases hq : q < sp.length
    ·exact hsp _ (rdSp_mem hq)
    ·unfold rdSp; rw [List.getD_eq_getElem?_getD, List.getElem?_eq_none (by omega)]
     exact Nat.two_pow_pos n
   unfold looksS
   split
   ·exact Nat.or_lt_two_pow hr (hs.fst _)
   ·exact hr
  rcases List.eq_nil_or_concat todo with rfl | ⟨td, q, rfl⟩
  ·have e : s = r := by simpa [closeN] using h
   subst e; exact hs
  ·rw [List.concat_eq_append] at h; simp only [closeN, List.getLast?_append, List.getLast?_singleton, Option.some_or, List.dropLast_concat] at h
   split at h
   ·exact closeN_lt hsp k (s, td) r hs h
   ·exact closeN_lt hsp k _ r (Lt.puts (hlook q) _ (s, td) hs) h
structure SetOk (T N : Nat) (s : List Nat) : Prop where
 len : s.length = N
 lt : Lt T s
theorem marks_ok {T N : Nat} {sp : List S230} {s : List Nat} (hN : sp.length = N) (hl : s.length = N) (hs : Lt T s) (hnx : ∀ i, i + 1 = sp.length → (rdSp sp i).f2 < 0) (y : Nat) : ∀ m ∈ marksOf sp s y s.length, 0 ≤ m.f0 ∧ m.f0 < (N : Int) ∧ 0 ≤ m.f1 ∧ m.f1.toNat < 2 ^ T := by
 intro m hm; unfold marksOf at hm; rw [List.mem_filterMap] at hm; obtain ⟨i, hi, hm⟩ := hm; rw [List.mem_range] at hi
 split at hm
 ·rename_i h
  cases hm; have h1 : i + 1 ≠ sp.length := fun e => by have := hnx i e; omega
  have h2 := hs.fst i; refine ⟨Int.natCast_nonneg _, ?_, Int.natCast_nonneg _, ?_⟩
  ·show ((i + 1 : Nat) : Int) < N; omega
  ·show ((Bld.fst s i : Nat) : Int).toNat < 2 ^ T; rw [Int.toNat_natCast]; exact h2
 ·cases hm
theorem pow64 {T : Nat} (h : T ≤ 64) : 2 ^ T ≤ two64 := Nat.le_trans (Nat.pow_le_pow_right (by decide) h) (by decide)
theorem closed_of {T M : Nat} {sp : List S230} {of_ : List (List Nat)} (hf : FitB T M sp of_) (hsp : ∀ x ∈ sp, x.f3.toNat < 2 ^ T) (h64 : T ≤ 64) (l : List S166) (hl : ∀ m ∈ l, 0 ≤ m.f0 ∧ m.f0 < (sp.length : Int) ∧ 0 ≤ m.f1 ∧ m.f1.toNat < 2 ^ T) :
  ∃ r, closeN T sp of_ (64 * sp.length + 1) (marksS l (List.replicate sp.length 0, [])) = some r ∧ SetOk T sp.length r := by
 have hp := Pot.marks l _ (Pot.init sp.length) (fun m hm => ⟨(hl m hm).1, (hl m hm).2.1⟩) (fun m hm => ⟨(hl m hm).2.2.1, by have h1 := (hl m hm).2.2; have h2 := pow64 h64; unfold two64 at h2; omega⟩)
 obtain ⟨r, hr⟩ := closeN_some hf (64 * sp.length + 1) _ hp (by have := hp.pot; omega)
 have hlt := closeN_lt hsp _ _ r (Lt.marks l _ (fun x hx => by rw [(List.mem_replicate.1 hx).2]; exact Nat.two_pow_pos T) (fun m hm => (hl m hm).2.2.2)) hr
 exact ⟨r, hr, (closeN_fit hf _ _ r hp hr).1, hlt⟩
theorem goY_some {T M : Nat} {sp : List S230} {of_ : List (List Nat)} (hf : FitB T M sp of_) (hsp : ∀ x ∈ sp, x.f3.toNat < 2 ^ T) (h64 : T ≤ 64) : ∀ (mls : List (List S166)) (row : List Int) (st : SK), (∀ l ∈ mls, ∀ m ∈ l, 0 ≤ m.f0 ∧ m.f0 < (sp.length : Int) ∧ 0 ≤ m.f1 ∧ m.f1.toNat < 2 ^ T) → (∀ s ∈ st.1, SetOk T sp.length s) → st.1.length ≤ 2048 →
  ∃ res, goY T sp of_ (64 * sp.length + 1) mls row st = some res ∧ ∀ row' st', res = some (row', st') → row'.length = row.length + mls.length ∧ (∀ s ∈ st'.1, SetOk T sp.length s) ∧ st.1.length ≤ st'.1.length ∧ st'.1.length ≤ 2048
 | [], row, st, _, hs, hl => ⟨some (row, st), rfl, fun row' st' e => by cases e; exact ⟨rfl, hs, Nat.le_refl _, hl⟩⟩
 | ml :: rest, row, st, hm, hs, hl => by
  have hrest : ∀ l ∈ rest, ∀ m ∈ l, 0 ≤ m.f0 ∧ m.f0 < (sp.length : Int) ∧ 0 ≤ m.f1 ∧ m.f1.toNat < 2 ^ T := fun l h => hm l (by simp [h])
  cases ml with
  | nil =>
   obtain ⟨res, h1, h2⟩ := goY_some hf hsp h64 rest (row ++ [-1]) st hrest hs hl; refine ⟨res, h1, fun row' st' e => ?_⟩
   obtain ⟨a, b⟩ := h2 row' st' e; exact ⟨by rw [a]; simp only [List.length_append, List.length_cons, List.length_nil]; omega, b⟩
  | cons m ms =>
   cases hx : ixB (keyB (m :: ms)) st.2 with
   | some n =>
    obtain ⟨res, h1, h2⟩ := goY_some hf hsp h64 rest (row ++ [(n : Int)]) st hrest hs hl; refine ⟨res, by simp only [goY, hx]; exact h1, fun row' st' e => ?_⟩
    obtain ⟨a, b⟩ := h2 row' st' e; exact ⟨by rw [a]; simp only [List.length_append, List.length_cons, List.length_nil]; omega, b⟩
   | none =>
    by_cases hfull : st.1.length = 2048
    ·exact ⟨none, by simp only [goY, hx]; rw [if_pos hfull], fun _ _ e => by cases e⟩
    ·obtain ⟨r, hr, hok⟩ := closed_of hf hsp h64 (m :: ms) (hm _ (by simp))
     obtain ⟨res, h1, h2⟩ := goY_some hf hsp h64 rest (row ++ [(st.1.length : Int)]) (st.1 ++ [r], st.2 ++ [keyB (m :: ms)]) hrest (fun s hs2 => by
      rcases List.mem_append.1 hs2 with h | h
      ·exact hs s h
      ·rw [List.mem_singleton.1 h]; exact hok) (by simp only [List.length_append, List.length_cons, List.length_nil]; omega)
     refine ⟨res, by simp only [goY, hx]; rw [if_neg hfull, hr]; exact h1, fun row' st' e => ?_⟩
     obtain ⟨a, b, c, d⟩ := h2 row' st' e; simp only [List.length_append, List.length_cons, List.length_nil] at c; exact ⟨by rw [a]; simp only [List.length_append, List.length_cons, List.length_nil]; omega, b, by omega, d⟩
theorem goI_some {T M : Nat} {sp : List S230} {of_ : List (List Nat)} (hf : FitB T M sp of_) (hsp : ∀ x ∈ sp, x.f3.toNat < 2 ^ T) (h64 : T ≤ 64) (hnx : ∀ i, i + 1 = sp.length → (rdSp sp i).f2 < 0) : ∀ (k i : Nat) (st : SK) (gs : List (List Int)), (∀ s ∈ st.1, SetOk T sp.length s) → st.1.length ≤ 2048 → i ≤ st.1.length → gs.length = i → (∀ g ∈ gs, g.length = T + M) → 2048 < i + k →
  ∃ res, goI T M sp of_ (64 * sp.length + 1) k i st gs = some res ∧ ∀ ss gs', res = some (ss, gs') → gs'.length = ss.length ∧ ss.length ≤ 2048 ∧ (∀ s ∈ ss, SetOk T sp.length s) ∧ ∀ g ∈ gs', g.length = T + M
 | 0, i, st, gs, _, hl, hi, _, _, hk => by omega
 | k + 1, i, st, gs, hs, hl, hi, hg, hr, hk => by
  unfold goI; cases hsi : st.1[i]? with
  | none =>
   have hge : st.1.length ≤ i := by
    rcases Nat.lt_or_ge i st.1.length with h | h
    ·rw [List.getElem?_eq_getElem h] at hsi; cases hsi
    ·exact h
   exact ⟨some (st.1, gs), rfl, fun ss gs' e => by cases e; exact ⟨by omega, hl, hs, hr⟩⟩
  | some s =>
   have hil := (List.getElem?_eq_some_iff.1 hsi).1; have hok := hs s (List.mem_of_getElem? hsi); obtain ⟨res, h1, h2⟩ := goY_some hf hsp h64 (movedN (T + M) sp s s.length) [] st (fun l hlm m hm => by
    unfold movedN at hlm; obtain ⟨y, -, rfl⟩ := List.mem_map.1 hlm; exact marks_ok rfl hok.len hok.lt hnx y m hm) hs hl
   simp only; rw [h1]; cases res with
   | none => exact ⟨none, rfl, fun _ _ e => by cases e⟩
   | some rs =>
    obtain ⟨row, st'⟩ := rs; obtain ⟨a, b, c, d⟩ := h2 row st' rfl; rw [movedN_len] at a; simp only [List.length_nil, Nat.zero_add] at a; exact goI_some hf hsp h64 hnx k (i + 1) st' (gs ++ [row]) b d (by omega) (by simp [hg]) (fun g hgm => by
     rcases List.mem_append.1 hgm with h | h
     ·exact hr g h
     ·rw [List.mem_singleton.1 h]; exact a) (by omega)
theorem bits_lt {T x : Nat} (hx : x < 2 ^ T) : ∀ b ∈ bitsOf x, b < T := fun b hb => by
 unfold bitsOf at hb; rw [List.mem_filter] at hb; apply Classical.byContradiction; intro h; have h1 : x < 2 ^ b := Nat.lt_of_lt_of_le hx (Nat.pow_le_pow_right (by decide) (by omega))
 rw [Nat.testBit_lt_two_pow h1] at hb; cases hb.2
theorem items_fit {T M : Nat} {ps : List S77} {sp : List S230} (hsp : ∀ x ∈ sp, Spot T M ps.length x) {s : List Nat} (hs : SetOk T sp.length s) : FitI T ps (listN sp s s.length) := by
 intro x hx; unfold listN at hx; rw [List.mem_flatMap] at hx; obtain ⟨i, hi, hx⟩ := hx; rw [List.mem_range] at hi; rw [List.mem_map] at hx; obtain ⟨b, hb, rfl⟩ := hx; have h1 := (hsp _ (rdSp_mem (sp := sp) (n := i) (by have := hs.len; omega))).prod
 have h2 := bits_lt (hs.lt.fst i) b hb; unfold itemOf; exact ⟨h1.1, h1.2, Int.natCast_nonneg _, by show (b : Int) < T; omega⟩
theorem build_data {T M : Nat} {ps : List S77} (hf : Fair T M ps) (hp : 0 < ps.length) :
  ∃ k s, solveN T ps k (initF T, noV) = some s ∧ Fit s ∧ FitB T M (zbf s.1 s.2 0 ps) (ofAll M ps) ∧ (∀ i, i + 1 = (zbf s.1 s.2 0 ps).length → (rdSp (zbf s.1 s.2 0 ps) i).f2 < 0)
   ∧ ∃ kf kg res, setsN T M (zbf s.1 s.2 0 ps) (ofAll M ps) kf kg = some res ∧ ∀ ss gs, res = some (ss, gs) → SetsOk T M ps (zbf s.1 s.2 0 ps) ss gs := by
 obtain ⟨k, s, h1, h2, h3⟩ := solve_exists T ps hf.t64; have hB := fitB_of hf h3; have hnx := spots_last (F := s.1) (V := s.2) hp; have hSp := spotsS_ok (M := M) (V := s.2) h3 hf.t1 ps 0 (n := ps.length) (by omega) hf.rhs
 have hl := spotsS_len s.1 s.2 ps 0; have hpos : 0 < (zbf s.1 s.2 0 ps).length := by rw [hl]; have := dots_len ps; omega
 refine ⟨k, s, h1, h2, ?_⟩; generalize zbf s.1 s.2 0 ps = sp at *; have hr3 : ∀ x ∈ sp, x.f3.toNat < 2 ^ T := fun x hx => by have := (hSp x hx).rest; omega
 obtain ⟨r, hr, hok⟩ := closed_of hB hr3 hf.t64 startL (fun m hm => by
  rw [List.mem_singleton.1 hm]; refine ⟨by decide, by show (0 : Int) < _; omega, by decide, ?_⟩
  show 1 < 2 ^ T; exact Nat.one_lt_two_pow (by have := hf.t1; omega))
 obtain ⟨res, g1, g2⟩ := goI_some hB hr3 hf.t64 hnx 2049 0 ([r], [keyB startL]) [] (fun s hs => by rw [List.mem_singleton.1 hs]; exact hok) (by simp) (by simp) rfl (by simp) (by omega)
 refine ⟨hB, hnx, 64 * sp.length + 1, 2049, res, ?_, fun ss gs e => ?_⟩
 ·unfold setsN; rw [hr]; exact g1
 ·obtain ⟨a, b, c, d⟩ := g2 ss gs e; refine ⟨a, b, fun q hq => ⟨items_fit hSp (c q hq), ?_⟩, d⟩
  have h4 := listN_len sp q q.length; have h5 := (c q hq).len; have h6 := hB.n20; omega
end Bld
end Go.Proofs.YtcijanmckhlpiaaDoor
namespace Go.Proofs.YtcijanmckhlpiaaDoor
open Go.RowKit Go.Proofs.YtcijanmckhlpiaaDoorW.PrintWords Go.Proofs.YtcijanmckhlpiaaDoorW.PrintLast Go.Proofs.YtcijanmckhlpiaaDoorW.PrintMore Go.Proofs.YtcijanmckhlpiaaDoor.PTableBuilds
namespace Bld
theorem info90 : (Tryd.prog.info? 90).map (fun i => (i.zero, i.size, i.bytes)) = some (some (.slice none 0 0), 1, 24) := by kernel_rfl
theorem goB_step (T : Nat) (ps : List S77) (s : List S178) (ss : List (List S178)) (gs : List (List Int)) (i : Nat) (acc : TRows) (g : List Int) (hg : gs[i]? = some g) : goB T ps (s :: ss) gs i acc = match (rowS T ps s g).2 with
  | some c => .inr (130, (i : Int), (c : Int))
  | none => goB T ps ss gs (i + 1) (acc.1 ++ [(rowS T ps s g).1], acc.2 ++ [g.drop T]) := by
 have e : gs.getD i [] = g := by rw [List.getD_eq_getElem?_getD, hg]; rfl
 show (match (rowS T ps s (gs.getD i [])).2 with
  | some c => (.inr (130, (i : Int), (c : Int)) : BR)
  | none => goB T ps ss gs (i + 1) (acc.1 ++ [(rowS T ps s (gs.getD i [])).1], acc.2 ++ [(gs.getD i []).drop T])) = _
 rw [e]
theorem Rows.cut {α : Type} {k : Kd α} {t : Nat} {w : World} {base : Nat} {vs : List Value} {xs : List (List α)} (h : Rows k t w base vs xs) {b : Nat} (hb : w.heap.size ≤ b) {v : Value} (hv : ∀ q, v.ownBlock = some q → b ≤ q) : ∀ (j : Nat) (u : Value) (q : Nat), vs[j]? = some u → u.ownBlock = some q → v.ownBlock ≠ some q := fun j u q hu hq he => by
 have h1 := h.lt hu hq; have h2 := hv q he; omega
set_option maxRecDepth 100000 in
set_option maxHeartbeats 4000000 in
theorem build_any (A : Option Addr) (c : Nat) (l : List S112) (B : Option Addr) (d : Nat) (m : List S115) (C : Option Addr) (e : Nat) (ps : List S77) (w : World)
  (hg : GR w A c l B d m C e ps) (hf : Fair l.length m.length ps) (kr : Nat) (hri : items_right.f kr l m ps = some true) (k : Nat) (s : FV) (hk : solveN l.length ps k (initF l.length, noV) = some s) (hfit : Fit s) (hT : Tab64 w)
  (hfb : FitB l.length m.length (zbf s.1 s.2 0 ps) (ofAll m.length ps)) (hnx : ∀ i, i + 1 = (zbf s.1 s.2 0 ps).length → (rdSp (zbf s.1 s.2 0 ps) i).f2 < 0) (hp0 : 0 < ps.length) (kf kg : Nat) (res : Option (List (List Nat) × List (List Int))) (hres : setsN l.length m.length (zbf s.1 s.2 0 ps) (ofAll m.length ps) kf kg = some res)
  (hok : ∀ ss gs, res = some (ss, gs) → SetsOk l.length m.length ps (zbf s.1 s.2 0 ps) ss gs) (het : Dec.ErrType w) :
  Calls Tryd.prog 20 #[.agg #[.slice A l.length c, .slice B m.length d, .slice C ps.length e]] w (RetBuild w (buildS l.length ps (zbf s.1 s.2 0 ps) res)) := by
 have h64 := hf.t64; have t1 := hf.t1; have hm128 := hf.m128; have HPL := Lib.hid (fun (p : S77) (hp : p ∈ ps) => Nat.le_of_lt (hf.row hp))
 have hb0 := zab (zab (Below.refl w.heap.size w) (.cells #[.slice A l.length c, .slice B m.length d, .slice C ps.length e] 51)) (.cells #[.slice none 0 0, .slice none 0 0] 25); have HB0 := Lib.hid hb0; have HG := Lib.hid (hg.below hb0); have HET := Lib.hid (het.below hb0); have HTB := Lib.hid (hT.below hb0); have HX := Lib.hid (zad (zav w (.cells #[.slice A l.length c, .slice B m.length d, .slice C ps.length e] 51)) (.cells #[.slice none 0 0, .slice none 0 0] 25)); have hrb := zav (w.alloc (.cells #[.slice A l.length c, .slice B m.length d, .slice C ps.length e] 51)) (.cells #[.slice none 0 0, .slice none 0 0] 25); rw [szA] at hrb; have HRB := Lib.hid hrb; have HCALL := Lib.hid (fun (w2 : World) (h1 : GR w2 A c l B d m C e ps) (h2 : Tab64 w2) => sets_any A c l B d m C e ps w2 h1 hf kr hri k s hk hfit h2 hfb hnx hp0 kf kg res hres)
 have hrbs : w.heap.size ≤ w.heap.size + 1 := Nat.le_succ _; generalize hsp : zbf s.1 s.2 0 ps = sp at *; have HOK := Lib.hid hok; clear hb0 hg het hT hrb hf hri hk hfit hfb hnx hres hsp hok
 go_enter Tryd.func20, Tryd.ntmps20
 go_wp2_with ((with_reducible refine gate_ (.load 51 (.tmp 1)) rfl ?_); refine Hid.out ?_)
 refine Lib.hid ?_; generalize (w.alloc (.cells #[.slice A l.length c, .slice B m.length d, .slice C ps.length e] 51)).alloc (.cells #[.slice none 0 0, .slice none 0 0] 25) = w2 at *; generalize hrbe : w.heap.size + 1 = rb at *; generalize hgbe : w.heap.size = gb at *; have x0 := zac HX.out 0; have x1 := zac HX.out 1; have x2 := zac HX.out 2; simp at x0 x1 x2; rcases res with _ | ⟨ss, gs⟩
 ·go_wp2_with (go_at_call 40; refine (HCALL.out w2 HG.out HTB.out).mono ?_; rintro e1 w3 ⟨hb3, rfl⟩; refine Hid.out ?_)
  refine Lib.hid ?_; have HB3 := Lib.hid hb3; have HR3 := Lib.hid (zal HRB.out hb3); have r0 := zac HR3.out 0; have r0f := zak HR3.out 0; have r1 := zac HR3.out 1; have r1f := zak HR3.out 1; simp at r0 r1; clear hb3
  go_wp2_with fail
  refine bodyPost_ret (results_cttt rfl _ _ rb 25 #[.slice none 0 0, .slice none 0 0] (0, 0) _ rfl (zar (cs' := #[.slice none 0 0, .slice none 0 0]) (zar (cs' := #[.slice none 0 0, .slice none 0 0]) HR3.out 0 _ rfl) 1 _ rfl) Tryd.underlying25 rfl (by kernel_rfl)) rfl ?_
  refine ⟨?_, rfl⟩; have hbw : Below w.heap.size w w3 := zam (w := w) (by rw [hgbe]; exact HB0.out) HB3.out
  have hge : w.heap.size ≤ rb := by omega
  exact zae (zae hbw hge) hge
 ·have HSO := Lib.hid (HOK.out ss gs rfl)
  go_wp2_with (go_at_call 40; refine (HCALL.out w2 HG.out HTB.out).mono ?_; rintro e1 w3 ⟨hb3, As, ca, Bs, cb, rfl, hss, hgs⟩; refine Hid.out ?_)
  refine Lib.hid ?_; have HB3 := Lib.hid hb3; have HR3 := Lib.hid (zal HRB.out hb3); have HX3 := Lib.hid (zal HX.out hb3); have HG3 := Lib.hid (HG.out.below hb3); have HET3 := Lib.hid (HET.out.below hb3); generalize hsets : (ss.map fun s => listN sp s s.length) = sets at *
  have hsl : sets.length = ss.length := by rw [← hsets, List.length_map]
  have HFIT : Hid (∀ q ∈ sets, FitI l.length ps q ∧ q.length ≤ 1099511627776) := Lib.hid (fun q hq => by
   rw [← hsets, List.mem_map] at hq; obtain ⟨s0, hs0, rfl⟩ := hq; exact HSO.out.fit s0 hs0)
  have HSS := Lib.hid hss; have HGS := Lib.hid hgs; have hmost := HSO.out.most; have hbs : buildS l.length ps sp (some (ss, gs)) = goB l.length ps sets gs 0 ([], []) := by
   show goB l.length ps (ss.map fun s => listN sp s s.length) gs 0 ([], []) = _
   rw [hsets]
  have HBS := Lib.hid hbs; generalize buildS l.length ps sp (some (ss, gs)) = br at *; clear hb3 hss hgs hsets hbs x0 x1 x2 HX HG HET HRB
  go_wp2_with ((with_reducible refine gate_ (.alloc 25) rfl ?_); refine Hid.out ?_)
  refine Lib.hid ?_; have HT0 : Hid (Tx w3 (w3.alloc (.cells #[.slice none 0 0, .slice none 0 0] 25)) w3.heap.size (.slice none 0 0) (.slice none 0 0) [] [] [] [] [] []) := Lib.hid ⟨zab (Below.refl _ _) _, zav w3 _, Nat.le_refl _, Kd.R_nil _ _ _ _ _, Rows.empty, Kd.R_nil _ _ _ _ _, Rows.empty⟩
  go_wp2_with fail
  generalize w3.heap.size = tb at *
  go_loopw [27] (fun v w' => ∃ (i : Nat) (Av : Option Addr) (nv cv : Nat) (Bv : Option Addr) (mv dv : Nat) (hA hG : List HD) (rows : List (List S93)) (gos : List (List Int)), v = .int .i64 (i : Int) ∧ i ≤ ss.length ∧ rows.length = i ∧ gos.length = i ∧ Hid (goB l.length ps (sets.drop i) gs i (rows, gos) = br) ∧ Hid (Tx w3 w' tb (.slice Av nv cv) (.slice Bv mv dv) hA hG (hA.map hdr) (hG.map hdr) rows gos)) (fun v _ => ss.length - (intOf v).toNat)
  case atStart => exact ⟨0, none, 0, 0, none, 0, 0, [], [], [], [], rfl, Nat.zero_le _, rfl, rfl, by rw [List.drop_zero]; exact Lib.hid HBS.out.symm, HT0⟩
  case round =>
   clear HT0 HBS; obtain ⟨i, Av, nv, cv, Bv, mv, dv, hA, hG, rows, gos, rfl, hi, hrl, hgol, HGB, HT⟩ := hrel; by_cases hil : i < ss.length
   ·obtain ⟨st0, hst0⟩ : ∃ x, sets[i]? = some x := ⟨_, List.getElem?_eq_getElem (by omega)⟩
    obtain ⟨g0, hg0⟩ : ∃ x, gs[i]? = some x := ⟨_, List.getElem?_eq_getElem (by have := HSO.out.len; omega)⟩
    obtain ⟨ads, A5, c5, rfl, s1, -, hC5⟩ := at_Sl (Kd.zaw HSS.out HT.out.below) hst0; obtain ⟨adg, A6, c6, rfl, g13, hc6, hC6⟩ := at_Sl HGS.out hg0; have g1 := zat HT.out.below g13; have HG13 := Lib.hid g13; have hfi := HFIT.out st0 (List.mem_of_getElem? hst0); have hgr := HSO.out.row g0 (List.mem_of_getElem? hg0); have x0 := zac (zal HX3.out HT.out.below) 0; have x1 := zac (zal HX3.out HT.out.below) 1; have x2 := zac (zal HX3.out HT.out.below) 2; simp at x0 x1 x2; have hib : decide ((i : Int) < (ss.length : Int)) = true := decide_eq_true (by omega)
    have hi0 : (0 : Int) ≤ (i : Int) := Int.natCast_nonneg _; have hi1 : (i : Int) < (ss.length : Int) := by omega
    have hi1g : (i : Int) < (gs.length : Int) := by have := HSO.out.len; omega
    have hiw : IntKind.i64.wrap ((i : Int) + 1) = (i : Int) + 1 := IntWalk.i64_in _ (by omega)
    have hi2 : i + 1 ≤ ss.length := hil; have hme : ss.length - (i + 1) < ss.length - i := by omega
    have HROW := Lib.hid (row_any A c l B d m C e ps wr.drew (HG3.out.below HT.out.drew.below) h64 HPL.out i A5 c5 st0 (Kd.C_drew hC5) hfi.2 hfi.1 A6 c6 g0 (Kd.zaw hC6 HT.out.drew.below) (by omega) (HET3.out.below HT.out.drew.below))
    have HC6 := Lib.hid hC6; have hgb := HGB.out; rw [drop_of_get hst0, goB_step _ _ _ _ _ _ _ _ hg0] at hgb; have HGB1 := Lib.hid hgb; generalize rowS l.length ps st0 g0 = rs at *; have HGR := Lib.hid hgr; have hgle : l.length ≤ g0.length := by omega
    have hg20 : g0.length ≤ 192 := by omega
    clear hfi hC5 hC6 hst0 hg0 hgb HGB hgr g13
    go_wp2_with fail
    refine start_ (n := 13) (S := fun w' => w'.cell? ⟨gb, 0, none⟩ = some (.slice A l.length c) ∧ w'.cell? ⟨gb, 1, none⟩ = some (.slice B m.length d) ∧ w'.cell? ⟨gb, 2, none⟩ = some (.slice C ps.length e) ∧ w'.cell? (adg.add i) = some (.slice A6 g0.length c6)) (ds := [7]) #[false, false, false, false, false, false, false, false, false, false, false, false, false] (by kernel_rfl) rfl rfl ⟨x0, x1, x2, g1⟩ (fun hHeld => ?_)
    refine pe_ 1 (some 34) ?_ ?_ ?_ ?_ ?_; rotate_left
    ·intro w'; go_simp
     with_reducible rfl
    rotate_left
    ·simp only [nm_]; rfl
    refine pe_ 2 (some 35) ?_ ?_ ?_ ?_ ?_; rotate_left
    ·intro w'; go_simp
     with_reducible rfl
    rotate_left
    ·simp only [nm_]; rfl
    refine pe_ 3 (some 36) ?_ ?_ ?_ ?_ ?_; rotate_left
    ·intro w'; go_simp
     with_reducible rfl
    rotate_left
    ·simp only [nm_]; rfl
    refine pe_ 4 (some 37) ?_ ?_ ?_ ?_ ?_; rotate_left
    ·intro w'; go_simp
     with_reducible rfl
    rotate_left
    ·simp only [nm_]; rfl
    refine pe_ 5 (some 38) ?_ ?_ ?_ ?_ ?_; rotate_left
    ·intro w'; go_simp
     with_reducible rfl
    rotate_left
    ·simp only [nm_]; rfl
    refine te_ 0 (some 33) hHeld ?_ ?_ ?_ ?_ ?_; rotate_left
    ·rintro w' ⟨s0, s1, s2, s3⟩; go_simp
     with_reducible rfl
    rotate_left
    ·simp only [nm_]; rfl
    refine te_ 6 (some 39) hHeld ?_ ?_ ?_ ?_ ?_; rotate_left
    ·rintro w' ⟨s0, s1, s2, s3⟩; go_simp
     with_reducible rfl
    rotate_left
    ·simp only [nm_]; rfl
    refine lu_ (i := 7) (N := some 40) rfl rfl (by kernel_rfl) (by decide) (fun K hK => ?_)
    refine goes_ Tryd.func41 (by kernel_rfl) rfl #[.agg #[.slice A l.length c, .slice B m.length d, .slice C ps.length e], .int .i64 (i : Int), .slice A5 st0.length c5, .slice A6 g0.length c6] (by rfl) rfl rfl (by simp only [List.map_toArray, List.map_cons, List.map_nil]; rfl) ?_
    with_reducible refine (HROW.out).mono ?_
    rintro e4 w4 ⟨hb4, og, oc, ev, rfl, hrow, hbad⟩; refine ⟨_, rfl, ?_⟩; have HB4 := Lib.hid hb4; have HROW4 := Lib.hid hrow; have HBAD := Lib.hid hbad; clear hb4 hrow hbad; refine hK.out _ _ ?_; clear hK K; refine norm_ (a' := ?_) ?_ ?_; rotate_left
    ·show Act.put _ (some 40) _ = _; simp only [nm_]; rfl
    refine pe_ 8 (some 32) ?_ ?_ ?_ ?_ ?_; rotate_left
    ·intro w'; go_simp
     with_reducible rfl
    rotate_left
    ·simp only [nm_]; rfl
    refine pe_ 9 (some 41) ?_ ?_ ?_ ?_ ?_; rotate_left
    ·intro w'; go_simp
     with_reducible rfl
    rotate_left
    ·simp only [nm_]; rfl
    refine pe_ 10 (some 42) ?_ ?_ ?_ ?_ ?_; rotate_left
    ·intro w'; go_simp
     with_reducible rfl
    rotate_left
    ·simp only [nm_]; rfl
    refine pe_ 11 (some 12) ?_ ?_ ?_ ?_ ?_; rotate_left
    ·intro w'; go_simp
     with_reducible rfl
    rotate_left
    ·simp only [nm_]; rfl
    refine pe_ 12 (some 13) ?_ ?_ ?_ ?_ ?_; rotate_left
    ·intro w'; go_simp
     with_reducible rfl
    rotate_left
    ·simp only [nm_]; rfl
    refine done_ (by kernel_rfl) ?_
    clear hHeld HROW; obtain ⟨row, bo⟩ := rs; have HT4 := Lib.hid (HT.out.drew.bel HB4.out); have HT4n := Lib.hid (HT4.out.newA (v := .slice (some ⟨og, 0, none⟩) l.length oc) HROW4.out HT.out.drew.below.size (HT.out.drew.ra.cut (Nat.le_refl _) (fun q hq => Kd.R_base HROW4.out q hq)))
    have g1' := zat HB4.out g1; have x0' := zat HB4.out x0; clear g1 x0 x1 x2 s1 HROW4 HT; cases bo with
    | none =>
     have hev : ev = .nilIface := HBAD.out; subst hev
     go_wp2_with (go_at_call 33; refine (ErrsC.as_nil (.iface 123 (.pointer (some ⟨w4.heap.size, 0, none⟩))) _).mono ?_; rintro e5 w5 ⟨rfl, rfl⟩; refine Hid.out ?_)
     refine Lib.hid ?_; have HT5 := Lib.hid (HT4n.out.alloc (.cells #[.pointer none] 122)); have g1 := zat (zab (Below.refl w4.heap.size w4) (.cells #[.pointer none] 122)) g1'; have x0 := zat (zab (Below.refl w4.heap.size w4) (.cells #[.pointer none] 122)) x0'; clear HT4 HT4n g1' x0' HB4 HBAD; generalize w4.heap.size = cbk at *; generalize w4.alloc (.cells #[.pointer none] 122) = W5 at *; have t0 := zac HT5.out.tbk 0; simp at t0; have hbl := HT5.out.ra.len; simp at hbl; have hgll := HT5.out.rg.len; simp at hgll; have hbo : (hA.length + 1) * 24 ≤ 140737488355328 := by omega
     have hbo3 : (hG.length + 1) * 24 ≤ 140737488355328 := by omega
     go_wp2_with ((with_reducible refine zax (b := .append) (xs := #[.tmp 56, .tmp 58]) rfl ?_); refine Hid.out ?_)
     refine Lib.hid ?_
     at_builtin
     refine Kd.R_append kH (w0 := w3) (W := W5) w3.heap.size rfl (.tmp 56) (.tmp 58) 22 90 (.slice none 0 0) 24 rfl Tryd.underlying22 info90 rfl (by decide) (by decide) (.slice Av nv cv) hA (some ⟨og, 0, none⟩, l.length, oc) [.slice (some ⟨og, 0, none⟩) l.length oc] tru (fun _ => False) rfl rfl rfl (fun _ hk => hk.elim) (fun _ _ => trivial) HT5.out.A HT5.out.below HT5.out.below.size hbo ?_
     intro v9 ws ho9 hb9 hg9 hat9; obtain ⟨h9, hT9⟩ := HT5.out.appA ho9 hg9 hb9; have HT6 := Lib.hid hT9; obtain ⟨A9, c9, hv9, -, -⟩ := Kd.zbe ho9; generalize hn9 : (hA ++ [((some ⟨og, 0, none⟩, l.length, oc) : HD)]).length = n9 at hv9; subst hv9; have t9 := zac h9 0; have t9f := zak h9 0; simp at t9; clear ho9 hb9 hg9 hat9 hT9 hn9 HT5 t0 g1 x0
     go_wp2_with fail
     clear t9 t9f h9; generalize ws.setCell ⟨tb, 0, none⟩ (.slice A9 n9 c9) = W6 at *; obtain ⟨i0, hi0', hi0s⟩ := Option.map_eq_some_iff.1 info3; simp only [Prod.mk.injEq] at hi0s; have hcut := cut_from (P := Tryd.prog) 95 3 .i64 Tryd.underlying95 hi0' 1 hi0s.2.1 A6 g0.length c6 (l.length : Int) (Int.natCast_nonneg _) (by omega)
     have hdr := Kd.C_drop (m := l.length) (c := c6) (Kd.zaw HC6.out HT6.out.drew.below) (by omega) hc6
     rw [Int.toNat_natCast, ← List.length_drop] at hcut; rw [show l.length * kInt.sz = l.length * 1 from rfl] at hdr; generalize (if c6 = l.length then A6 else A6.map (·.add (l.length * 1))) = Xc at hcut hdr
     generalize hdn : (g0.drop l.length).length = dn at hcut hdr; have HDR := Lib.hid hdr; have hbo2 : (([] : List Int).length + dn) * 8 ≤ 140737488355328 := by rw [← hdn, List.length_drop]; simp; omega
     clear hdn; clear hdr hi0' hi0s; have g1 := zat HT6.out.below HG13.out; have x0 := zac (zal HX3.out HT6.out.below) 0; simp at x0; refine start_ (n := 15) (S := fun w' => w'.cell? ⟨tb, 1, none⟩ = some (.slice Bv mv dv) ∧ w'.cell? (adg.add i) = some (.slice A6 g0.length c6) ∧ w'.cell? ⟨gb, 0, none⟩ = some (.slice A l.length c)) (ds := [12, 14]) #[false, false, false, false, false, false, false, false, false, false, false, false, false, false, false] (by kernel_rfl) rfl rfl ⟨(zac HT6.out.drew.tbk 1), (zat (Below.refl _ _) g1), (zat (Below.refl _ _) x0)⟩ (fun hHeld => ?_)
     refine pe_ 0 (some 61) ?_ ?_ ?_ ?_ ?_; rotate_left
     ·intro w'; go_simp
      with_reducible rfl
     rotate_left
     ·simp only [nm_]; rfl
     refine pe_ 2 (some 63) ?_ ?_ ?_ ?_ ?_; rotate_left
     ·intro w'; go_simp
      with_reducible rfl
     rotate_left
     ·simp only [nm_]; rfl
     refine pe_ 3 (some 64) ?_ ?_ ?_ ?_ ?_; rotate_left
     ·intro w'; go_simp
      with_reducible rfl
     rotate_left
     ·simp only [nm_]; rfl
     refine pe_ 4 (some 65) ?_ ?_ ?_ ?_ ?_; rotate_left
     ·intro w'; go_simp
      with_reducible rfl
     rotate_left
     ·simp only [nm_]; rfl
     refine pe_ 6 (some 67) ?_ ?_ ?_ ?_ ?_; rotate_left
     ·intro w'; go_simp
      with_reducible rfl
     rotate_left
     ·simp only [nm_]; rfl
     refine te_ 1 (some 62) hHeld ?_ ?_ ?_ ?_ ?_; rotate_left
     ·rintro w' ⟨s0, s1, s2⟩; go_simp
      with_reducible rfl
     rotate_left
     ·simp only [nm_]; rfl
     refine te_ 5 (some 66) hHeld ?_ ?_ ?_ ?_ ?_; rotate_left
     ·rintro w' ⟨s0, s1, s2⟩; go_simp
      with_reducible rfl
     rotate_left
     ·simp only [nm_]; rfl
     refine te_ 7 (some 68) hHeld ?_ ?_ ?_ ?_ ?_; rotate_left
     ·rintro w' ⟨s0, s1, s2⟩; go_simp
      with_reducible rfl
     rotate_left
     ·simp only [nm_]; rfl
     refine pe_ 8 (some 69) ?_ ?_ ?_ ?_ ?_; rotate_left
     ·intro w'; go_simp
      with_reducible rfl
     rotate_left
     ·simp only [nm_]; rfl
     refine pe_ 9 (some 70) ?_ ?_ ?_ ?_ ?_; rotate_left
     ·intro w'; go_simp
      with_reducible rfl
     rotate_left
     ·simp only [nm_]; rfl
     refine ou_ (i := 10) (N := some 71) rfl rfl (by kernel_rfl) (by decide) (fun K hK => ?_)
     refine Kd.R_append_rows_step kInt (w0 := w3) (W := W6.drew) w3.heap.size (by rfl) (.const (.slice none 0 0)) (.tmp 70) 95 3 (.int .i64 0) 8 rfl Tryd.underlying95 info3 rfl (by decide) (by decide) (.slice none 0 0) [] (g0.drop l.length) Xc dn (c6 - l.length) tru (fun _ => False) rfl rfl (Kd.R_nil _ _ _ _ _) HDR.out (fun _ _ h => h) (fun _ h => h.elim) (fun _ _ => trivial) HT6.out.drew.below HT6.out.drew.below.size hbo2 ?_
     intro v7 w7 ho7 hb7 hg7 hat7; rw [List.nil_append] at ho7; have HB67 : Hid (Below W6.drew.heap.size W6.drew w7) := Lib.hid (pw_below_grown (Below.refl W6.drew.heap.size W6.drew) none (Nat.le_refl _) hg7 (fun k h => by cases h))
     have hfr7 : ∀ q, v7.ownBlock = some q → W6.drew.heap.size ≤ q := fun q hq => by
      rcases hat7 with h | ⟨b, h, hle⟩
      ·rw [h] at hq; cases hq
      ·rw [h] at hq; cases hq; exact hle
     have HT7 := Lib.hid ((HT6.out.drew.bel HB67.out).newG (Kd.zbg ho7 (fun _ _ => trivial)) (Nat.le_refl _) (HT6.out.drew.rg.cut (Nat.le_refl _) hfr7))
     obtain ⟨A7, c7, hv7, -, -⟩ := Kd.zbe ho7; generalize hn7 : (g0.drop l.length).length = n7 at hv7; subst hv7; clear hn7 ho7 hb7 hg7 hat7 hfr7; refine hK.out _ _ ⟨(zac HT7.out.tbk 1), (zat HB67.out g1), (zat HB67.out x0)⟩ (fun hHeld => ?_)
     clear hK K; refine norm_ (a' := ?_) ?_ ?_; rotate_left
     ·show Act.put _ (some 71) _ = _; simp only [nm_]; rfl
     refine ou_ (i := 11) (N := some 72) rfl rfl (by kernel_rfl) (by decide) (fun K hK => ?_)
     refine value_ (w1 := ?_) (v := ?_) (by rfl) rfl ?_ ?_
     rotate_left 2
     ·go_simp; constructor
      ·rfl
      ·rfl
     refine hK.out _ _ ⟨(zac (HT7.out.alloc _).tbk 1), (zat (zab HB67.out _) g1), (zat (zab HB67.out _) x0)⟩ (fun hHeld => ?_)
     clear hK K; refine norm_ (a' := ?_) ?_ ?_; rotate_left
     ·show Act.put _ (some 72) _ = _; simp only [nm_]; rfl
     refine lu_ (i := 12) (N := some 73) rfl rfl (by kernel_rfl) (by decide) (fun K hK => ?_)
     refine Kd.R_append_step kH (w0 := w3) (W := w7) w3.heap.size (by rfl) (.tmp 62) (.tmp 72) 23 95 (.slice none 0 0) 24 rfl Tryd.underlying23 info95 rfl (by decide) (by decide) (.slice Bv mv dv) hG (A7, n7, c7) [.slice A7 n7 c7] tru (fun _ => False) rfl rfl rfl (fun _ hk => hk.elim) (fun _ _ => trivial) HT7.out.G HT7.out.below HT7.out.below.size hbo3 ?_
     intro v8 w8 ho8 hb8 hg8 hat8; obtain ⟨h8, hT8⟩ := HT7.out.appG ho8 hg8 hb8; have HT8 := Lib.hid hT8; obtain ⟨A8, c8, hv8, -, -⟩ := Kd.zbe ho8; generalize hn8 : (hG ++ [((A7, n7, c7) : HD)]).length = n8 at hv8; subst hv8; have t8 := zac h8 1; have t8f := zak h8 1; simp at t8; clear hn8 ho8 hb8 hg8 hat8 hT8 h8; refine hK.out _ _ ?_; clear hK K; refine norm_ (a' := ?_) ?_ ?_; rotate_left
     ·show Act.put _ (some 73) _ = _; simp only [nm_]; rfl
     refine pe_ 13 (some 74) ?_ ?_ ?_ ?_ ?_; rotate_left
     ·intro w'; go_simp
      with_reducible rfl
     rotate_left
     ·simp only [nm_]; rfl
     refine lu_ (i := 14) (N := none) rfl rfl (by kernel_rfl) (by decide) (fun K hK => ?_)
     refine skip_ (w1 := ?_) (by rfl) rfl ?_ ?_
     rotate_left
     ·go_simp; rfl
     refine hK.out _ _ ?_; clear hK K; refine done_ (by kernel_rfl) ?_
     clear hHeld; have hm1 : hA.map hdr ++ [.slice (some ⟨og, 0, none⟩) l.length oc] = (hA ++ [((some ⟨og, 0, none⟩, l.length, oc) : HD)]).map hdr := by rw [List.map_append]; rfl
     have hm2 : hG.map hdr ++ [.slice A7 n7 c7] = (hG ++ [((A7, n7, c7) : HD)]).map hdr := by rw [List.map_append]; rfl
     have HT9 := HT8.out; rw [hm1, hm2] at HT9; have hrl2 : (rows ++ [row]).length = i + 1 := by rw [List.length_append, hrl]; rfl
     have hgol2 : (gos ++ [g0.drop l.length]).length = i + 1 := by rw [List.length_append, hgol]; rfl
     have HRL2 := Lib.hid hrl2; have HGOL2 := Lib.hid hgol2; have HT10 := Lib.hid HT9; clear hm1 hm2 HT9 hrl2 hgol2 hcut HT8 HT6 g1 x0 t8 t8f HT7 HDR
     go_wp2_with fail
     go_roundw
     case rel => first | exact ⟨i + 1, A9, n9, c9, A8, n8, c8, _, _, rows ++ [row], gos ++ [g0.drop l.length], by rw [Int.natCast_add]; rfl, hi2, HRL2.out, HGOL2.out, HGB1, HT10⟩ | ((repeat apply Exists.intro); exact ⟨⟨i + 1, A9, n9, c9, A8, n8, c8, _, _, rows ++ [row], gos ++ [g0.drop l.length], by rw [Int.natCast_add] <;> rfl, hi2, HRL2.out, HGOL2.out, HGB1, HT10⟩, rfl⟩)
     case measure => exact hme
    | some cc =>
     obtain ⟨eb, hge, rfl, he⟩ := HBAD.out; have HC := Lib.hid (zav w4 (.cells #[.pointer none] 122)); have HE5 := Lib.hid (zad he (.cells #[.pointer none] 122)); have hb5 := zab (Below.refl w4.heap.size w4) (.cells #[.pointer none] 122); have HR5 := Lib.hid (zal (zal HR3.out HT4.out.below) hb5); have HB5 := Lib.hid (zam HT4.out.below hb5); have HET5 := Lib.hid (HET3.out.below HB5.out); have hc3 : w3.heap.size ≤ w4.heap.size := HT4.out.below.size; have hge2 : gb ≤ w4.heap.size + 1 := by have := HB3.out.size; have := HB0.out.size; omega
     have hbr := HGB1.out; clear hge he hb5 HT4 HT4n g1' x0' HB4 HBAD; generalize hcbk : w4.heap.size = cbk at *; generalize hW5 : w4.alloc (.cells #[.pointer none] 122) = W5 at *; have h5s : cbk ≤ W5.heap.size := by rw [← hW5, World.size_alloc, hcbk]; omega
     go_wp2_with (go_at_call 33; refine (as_hitC eb cbk _ HET5.out HC.out).mono ?_; rintro e5 w5 ⟨rfl, hv7, hvk, hvb⟩; refine Hid.out ?_)
     refine Lib.hid ?_; have HB6 := Lib.hid (hvb HB5.out hc3 HB5.out.size); have HCV := Lib.hid hv7; have HEV := Lib.hid (hvk.blk HE5.out (blk_ne HE5.out HC.out (by decide)) (by simp))
     have HRV := Lib.hid (hvk.blk HR5.out (blk_ne HR5.out HC.out (by decide)) (by simp))
     have r0 := zac HRV.out 0; have r0f := zak HRV.out 0; have r1 := zac HRV.out 1; have r1f := zak HRV.out 1; simp at r0 r1; clear hv7 hvk hvb
     go_wp2_with fail
     refine start_ (n := 13) (S := fun w' => w'.cell? ⟨cbk, 0, none⟩ = some (.pointer (some ⟨eb, 0, none⟩)) ∧ w'.cell? ⟨eb, 0, none⟩ = some (.int .i64 (i : Int)) ∧ w'.cell? ⟨eb, 1, none⟩ = some (.int .i64 (cc : Int))) (ds := []) #[false, false, false, false, false, false, false, false, false, false, false, false, false] (by kernel_rfl) rfl rfl ⟨(zac (zaj HCV.out) 0), (zac (zaj HEV.out) 0), (zac (zaj HEV.out) 1)⟩ (fun hHeld => ?_)
     refine pe_ 0 (some 46) ?_ ?_ ?_ ?_ ?_; rotate_left
     ·intro w'; go_simp
      with_reducible rfl
     rotate_left
     ·simp only [nm_]; rfl
     refine te_ 1 (some 47) hHeld ?_ ?_ ?_ ?_ ?_; rotate_left
     ·rintro w' ⟨s0, s1, s2⟩; go_simp
      with_reducible rfl
     rotate_left
     ·simp only [nm_]; rfl
     refine pe_ 2 (some 48) ?_ ?_ ?_ ?_ ?_; rotate_left
     ·intro w'; go_simp
      with_reducible rfl
     rotate_left
     ·simp only [nm_]; rfl
     refine pe_ 3 (some 49) ?_ ?_ ?_ ?_ ?_; rotate_left
     ·intro w'; go_simp
      with_reducible rfl
     rotate_left
     ·simp only [nm_]; rfl
     refine te_ 4 (some 50) hHeld ?_ ?_ ?_ ?_ ?_; rotate_left
     ·rintro w' ⟨s0, s1, s2⟩; go_simp
      with_reducible rfl
     rotate_left
     ·simp only [nm_]; rfl
     refine te_ 5 (some 51) hHeld ?_ ?_ ?_ ?_ ?_; rotate_left
     ·rintro w' ⟨s0, s1, s2⟩; go_simp
      with_reducible rfl
     rotate_left
     ·simp only [nm_]; rfl
     refine pe_ 6 (some 52) ?_ ?_ ?_ ?_ ?_; rotate_left
     ·intro w'; go_simp
      with_reducible rfl
     rotate_left
     ·simp only [nm_]; rfl
     refine pe_ 7 (some 53) ?_ ?_ ?_ ?_ ?_; rotate_left
     ·intro w'; go_simp
      with_reducible rfl
     rotate_left
     ·simp only [nm_]; rfl
     refine te_ 8 (some 54) hHeld ?_ ?_ ?_ ?_ ?_; rotate_left
     ·rintro w' ⟨s0, s1, s2⟩; go_simp
      with_reducible rfl
     rotate_left
     ·simp only [nm_]; rfl
     refine ou_ (i := 9) (N := none) rfl rfl (by kernel_rfl) (by decide) (fun K hK => ?_)
     refine skip_ (w1 := ?_) (by rfl) rfl ?_ ?_
     rotate_left
     ·go_simp; rfl
     refine hK.out _ _ ⟨(zac (zaj <| zaq (p := ⟨rb, 1, none⟩) (zaq (p := ⟨rb, 0, none⟩) HCV.out (blk_ne HCV.out HRV.out (by decide)) _) (blk_ne HCV.out HRV.out (by decide)) _) 0), (zac (zaj <| zaq (p := ⟨rb, 1, none⟩) (zaq (p := ⟨rb, 0, none⟩) HEV.out (blk_ne HEV.out HRV.out (by decide)) _) (blk_ne HEV.out HRV.out (by decide)) _) 0), (zac (zaj <| zaq (p := ⟨rb, 1, none⟩) (zaq (p := ⟨rb, 0, none⟩) HEV.out (blk_ne HEV.out HRV.out (by decide)) _) (blk_ne HEV.out HRV.out (by decide)) _) 1)⟩ (fun hHeld => ?_)
     clear hK K; refine pe_ 10 (some 3) ?_ ?_ ?_ ?_ ?_; rotate_left
     ·intro w'; go_simp
      with_reducible rfl
     rotate_left
     ·simp only [nm_]; rfl
     refine pe_ 11 (some 4) ?_ ?_ ?_ ?_ ?_; rotate_left
     ·intro w'; go_simp
      with_reducible rfl
     rotate_left
     ·simp only [nm_]; rfl
     refine pe_ 12 (some 5) ?_ ?_ ?_ ?_ ?_; rotate_left
     ·intro w'; go_simp
      with_reducible rfl
     rotate_left
     ·simp only [nm_]; rfl
     refine done_ (by kernel_rfl) ?_
     go_wp2_with fail
     have h0 : Below w.heap.size w w2 := by rw [hgbe]; exact HB0.out
     have hbw : Below w.heap.size w w5 := zam (zam h0 HB3.out) HB6.out; have hgr : w.heap.size ≤ rb := by omega
     refine bodyPost_ret (results_cttt rfl _ _ rb 25 #[.slice none 0 0, .slice none 0 0] (0, 0) _ rfl (zaj (zar (cs' := #[.slice none 0 0, .slice none 0 0]) (zar (cs' := #[.slice none 0 0, .slice none 0 0]) HRV.out 0 _ rfl) 1 _ rfl)) Tryd.underlying25 rfl (by kernel_rfl)) rfl ?_
     rw [← hbr]; exact ⟨zbl (zae (zae hbw hgr) hgr), rfl⟩
   ·have hib : decide ((i : Int) < (ss.length : Int)) = false := decide_eq_false (by omega)
    have t0 := zac HT.out.tbk 0; have t1 := zac HT.out.tbk 1; have HRE := Lib.hid (zal HR3.out HT.out.below); have r0 := zac HRE.out 0; have r0f := zak HRE.out 0; have r1 := zac HRE.out 1; have r1f := zak HRE.out 1; simp at t0 t1 r0 r1
    go_wp2_with fail
    have hdz : sets.drop i = [] := List.drop_eq_nil_of_le (by omega)
    have hbr : br = .inl (rows, gos) := by rw [← HGB.out, hdz]; rfl
    refine bodyPost_ret (results_cttt rfl _ _ rb 25 #[.slice Av nv cv, .slice Bv mv dv] (0, 0) _ rfl (zar (cs' := #[.slice Av nv cv, .slice Bv mv dv]) (zar (cs' := #[.slice Av nv cv, .slice none 0 0]) HRE.out 0 _ rfl) 1 _ rfl) Tryd.underlying25 rfl (by kernel_rfl)) rfl ?_
    have h0 : Below w.heap.size w w2 := by rw [hgbe]; exact HB0.out
    have hbw : Below w.heap.size w wr := zam (zam h0 HB3.out) HT.out.below; have hge : w.heap.size ≤ rb := by omega
    have hle : w.heap.size ≤ w3.heap.size := by have := HB3.out.size; have := HB0.out.size; omega
    have hbl := HT.out.ra.len; rw [List.length_map] at hbl; have hgll := HT.out.rg.len; rw [List.length_map] at hgll; obtain ⟨A', c', e1, -, -⟩ := Kd.zbe HT.out.A; obtain ⟨B', d', e2, -, -⟩ := Kd.zbe HT.out.G; injection e1 with _ e1 _; injection e2 with _ e2 _; rw [hbl] at e1; rw [hgll] at e2; subst e1; subst e2; rw [hbr]; have hp1 := zar (cs' := #[.slice Av rows.length cv, .slice none 0 0]) HRE.out 0 (.slice Av rows.length cv) rfl; refine ⟨zae (zae hbw hge) hge, Av, cv, Bv, dv, rfl, ⟨hA, hG, ?_, ?_, ?_, ?_⟩⟩
    ·exact Kd.R_lower (Kd.R_set (Kd.R_set HT.out.A HRE.out (by decide) _ _) hp1 (by decide) _ _) hle
    ·exact ((HT.out.ra.set HRE.out (by decide) _ _).set hp1 (by decide) _ _).lower hle
    ·exact Kd.R_lower (Kd.R_set (Kd.R_set HT.out.G HRE.out (by decide) _ _) hp1 (by decide) _ _) hle
    ·exact ((HT.out.rg.set HRE.out (by decide) _ _).set hp1 (by decide) _ _).lower hle
def refB (T M : Nat) (r : S110) : Bool := !(decide (r.f0 < 1)) && !(decide (r.f0 ≥ (T : Int) + M))
def prodB (T M i : Nat) (p : S77) : Bool := !(decide (0 < i) && (decide (p.f0 < 0) || decide (p.f0 ≥ (M : Int)))) && p.f1.all (refB T M)
def rowsB (T M : Nat) : Nat → List S77 → Bool
 | _, [] => true
 | i, p :: ps => prodB T M i p && rowsB T M (i + 1) ps
def zeroB (T : Nat) (ps : List S77) : Bool := ((zao ps 0).f0 == -1) && (decide ((zao ps 0).f1.length = 1) && ((zbj (zao ps 0).f1 0).f0 == (T : Int)))
def rightB (T M : Nat) (ps : List S77) : Bool := decide (1 ≤ T ∧ T ≤ 64 ∧ M ≤ 128 ∧ ps.length ≠ 0) && (rowsB T M 0 ps && zeroB T ps)
theorem w64s {i : Nat} (h : i + 1 ≤ 9223372036854775807) : wrap64 ((i : Int) + 1) = ((i + 1 : Nat) : Int) := by unfold wrap64; omega
theorem rdT110_nat (row : List S110) (i : Nat) (h : i < row.length) : zbj row (i : Int) = row[i] := by
 unfold zbj; rw [Int.toNat_natCast, List.getD_eq_getElem?_getD, List.getElem?_eq_getElem h]; rfl
theorem rdT77_nat (row : List S77) (i : Nat) (h : i < row.length) : zao row (i : Int) = row[i] := by
 unfold zao; rw [Int.toNat_natCast, List.getD_eq_getElem?_getD, List.getElem?_eq_getElem h]; rfl
theorem right_l1 (l : List S112) (m : List S115) (ps x31 : List S77) (x32 x33 : Int) (hT : l.length ≤ 64) (hM : m.length ≤ 128) (row : List S110) (hrow : row.length ≤ 9223372036854775807) (NX : Bool) (hn : Ev (fun k => items_right.l0 k (l.length : Int) x31 x32 (wrap64 (x33 + 1)) l m ps) NX) :
  ∀ (d i : Nat), row.length - i = d → i ≤ row.length → Ev (fun k => items_right.l1 k (l.length : Int) x31 x32 x33 row (row.length : Int) (i : Int) l m ps) ((row.drop i).all (refB l.length m.length) && NX) := by
 intro d
 induction d with
 | zero =>
  intro i hd hi; rw [List.drop_eq_nil_of_le (by omega)]
  simp only [List.all_nil, Bool.true_and]; exact Ev.step (fun k => by simp only [items_right.l1]; rw [if_neg (by omega)]) hn
 | succ d ih =>
  intro i hd hi; have hlt : i < row.length := by omega
  have h := ih (i + 1) (by omega) (by omega)
  have hw : wrap64 ((l.length : Int) + (m.length : Int)) = (l.length : Int) + m.length := by unfold wrap64; omega
  rw [List.drop_eq_getElem_cons hlt]; simp only [List.all_cons, refB]; have hs : ∀ k, items_right.l1 (k + 1) (l.length : Int) x31 x32 x33 row (row.length : Int) (i : Int) l m ps = (if (row[i]).f0 < 1 then some false else if (row[i]).f0 ≥ (l.length : Int) + m.length then some false else items_right.l1 k (l.length : Int) x31 x32 x33 row (row.length : Int) ((i + 1 : Nat) : Int) l m ps) := by
   intro k; simp only [items_right.l1]; rw [if_pos (by omega), if_pos (by omega), if_pos (by omega), rdT110_nat row i hlt, w64s (by omega), hw]
  refine Ev.step hs ?_; by_cases h1 : (row[i]).f0 < 1
  ·simp only [if_pos h1, decide_eq_true h1, Bool.not_true, Bool.false_and]; exact Ev.now _
  ·by_cases h2 : (row[i]).f0 ≥ (l.length : Int) + m.length
   ·simp only [if_neg h1, if_pos h2, decide_eq_true h2, Bool.not_true, Bool.and_false, Bool.false_and]; exact Ev.now _
   ·simp only [if_neg h1, if_neg h2, decide_eq_false h1, decide_eq_false h2, Bool.not_false, Bool.true_and]; exact h
theorem right_l0 (l : List S112) (m : List S115) (ps : List S77) (hT : l.length ≤ 64) (hM : m.length ≤ 128) (hps : ps.length ≤ 9223372036854775806) (h0 : ps.length ≠ 0) (hrow : ∀ p ∈ ps, p.f1.length ≤ 9223372036854775807) :
  ∀ (d i : Nat), ps.length - i = d → i ≤ ps.length → Ev (fun k => items_right.l0 k (l.length : Int) ps (ps.length : Int) (i : Int) l m ps) (rowsB l.length m.length i (ps.drop i) && zeroB l.length ps) := by
 intro d
 induction d with
 | zero =>
  intro i hd hi; rw [List.drop_eq_nil_of_le (by omega)]
  simp only [rowsB, Bool.true_and]; refine Ev.step (f := fun _ => some (zeroB l.length ps)) (fun k => ?_) (Ev.now _)
  simp only [items_right.l0]; rw [if_neg (by omega), if_pos (by omega)]
  unfold zeroB; by_cases h1 : (zao ps 0).f0 = -1
  ·rw [if_pos h1, h1]; by_cases h2 : (zao ps 0).f1.length = 1
   ·rw [if_pos (by omega), if_pos (by omega), decide_eq_true h2]
    simp
   ·rw [if_neg (by omega), decide_eq_false h2]
    simp
  ·rw [if_neg h1]; have : ((zao ps 0).f0 == -1) = false := by simpa using h1
   rw [this]; simp
 | succ d ih =>
  intro i hd hi; have hlt : i < ps.length := by omega
  have h := ih (i + 1) (by omega) (by omega)
  rw [List.drop_eq_getElem_cons hlt]; simp only [rowsB, prodB]; have hl1 := right_l1 l m ps ps (ps.length : Int) (i : Int) hT hM (ps[i]).f1 (hrow _ (List.getElem_mem hlt)) _ (by rw [w64s (by omega)]; exact h) _ 0 rfl (Nat.zero_le _)
  rw [List.drop_zero] at hl1; refine Ev.step (f := fun k => items_right.j2 k (l.length : Int) ps (ps.length : Int) (i : Int) (decide (0 < i) && (decide ((ps[i]).f0 < 0) || decide ((ps[i]).f0 ≥ (m.length : Int)))) l m ps (ps[i]).f0 (ps[i]).f1) (fun k => ?_) ?_
  ·simp only [items_right.l0]; rw [if_pos (by omega), if_pos (by omega), if_pos (by omega), rdT77_nat ps i hlt]
   by_cases hi0 : 0 < i
   ·rw [if_pos (by omega), decide_eq_true hi0]
    by_cases hn : (ps[i]).f0 < 0
    ·rw [if_pos hn, decide_eq_true hn]; rfl
    ·rw [if_neg hn, decide_eq_false hn]; rfl
   ·rw [if_neg (by omega), decide_eq_false hi0]; rfl
  ·cases hc : (decide (0 < i) && (decide ((ps[i]).f0 < 0) || decide ((ps[i]).f0 ≥ (m.length : Int)))) with
   | true => exact Ev.step (f := fun _ => some false) (fun k => by simp only [items_right.j2]; rw [if_pos trivial]) (by simpa using Ev.now false)
   | false =>
    simp only [Bool.not_false, Bool.true_and, Bool.and_assoc]; refine Ev.step (fun k => ?_) hl1
    simp only [items_right.j2]; rw [if_neg (by decide)]
    rfl
theorem right_ev (l : List S112) (m : List S115) (ps : List S77) (hps : ps.length ≤ 9223372036854775806) (hrow : ∀ p ∈ ps, p.f1.length ≤ 9223372036854775807) : Ev (fun k => items_right.f k l m ps) (rightB l.length m.length ps) := by
 unfold rightB; refine Ev.congr (f := fun k => items_right.j0 k (l.length : Int) (!decide (1 ≤ l.length ∧ l.length ≤ 64 ∧ m.length ≤ 128 ∧ ps.length ≠ 0)) l m ps) (fun k => ?_) ?_
 ·unfold items_right.f; by_cases h1 : (l.length : Int) < 1
  ·rw [if_pos h1, decide_eq_false (by omega)]; rfl
  ·rw [if_neg h1]; by_cases h2 : (l.length : Int) > 64
   ·rw [if_pos h2, decide_eq_false (by omega)]; rfl
   ·rw [if_neg h2]; by_cases h3 : (m.length : Int) > 128
    ·rw [if_pos h3, decide_eq_false (by omega)]; rfl
    ·rw [if_neg h3]
     congr 1
     by_cases h4 : ps.length = 0
     ·rw [decide_eq_false (by omega), h4]; rfl
     ·rw [decide_eq_true (p := 1 ≤ l.length ∧ l.length ≤ 64 ∧ m.length ≤ 128 ∧ ps.length ≠ 0) ⟨by omega, by omega, by omega, h4⟩]; simp; exact fun e => h4 (by rw [e]; rfl)
 ·by_cases hc : 1 ≤ l.length ∧ l.length ≤ 64 ∧ m.length ≤ 128 ∧ ps.length ≠ 0
  ·rw [decide_eq_true hc]; obtain ⟨h1, h2, h3, h4⟩ := hc; refine Ev.step (fun k => ?_) (by
    have h := right_l0 l m ps h2 h3 hps h4 hrow _ 0 rfl (Nat.zero_le _); rw [List.drop_zero] at h
    simpa using h)
   simp only [items_right.j0]; rw [if_neg (by decide)]
  ·rw [decide_eq_false hc]; refine Ev.step (f := fun _ => some false) (fun k => ?_) (by simpa using Ev.now false)
   simp only [items_right.j0]; rw [if_pos (by decide)]
theorem rowsB_all {T M : Nat} : ∀ (ps : List S77) (i : Nat), rowsB T M i ps = true → ∀ p ∈ ps, p.f1.all (refB T M) = true
 | [], i, _, p, hp => by cases hp
 | q :: ps, i, h, p, hp => by
  simp only [rowsB, prodB, Bool.and_eq_true] at h; rcases List.mem_cons.1 hp with rfl | hp
  ·exact h.1.2
  ·exact rowsB_all ps (i + 1) h.2 p hp
theorem rowsB_lhs {T M : Nat} : ∀ (ps : List S77) (i : Nat), 0 < i → rowsB T M i ps = true → ∀ p ∈ ps, 0 ≤ p.f0 ∧ p.f0 < M
 | [], i, _, _, p, hp => by cases hp
 | q :: ps, i, hi, h, p, hp => by
  simp only [rowsB, prodB, Bool.and_eq_true] at h; rcases List.mem_cons.1 hp with rfl | hp
  ·have h1 := h.1.1; rw [decide_eq_true hi] at h1; simp at h1; exact h1
  ·exact rowsB_lhs ps (i + 1) (Nat.succ_pos _) h.2 p hp
theorem fair_of {T M : Nat} {ps : List S77} (h : rightB T M ps = true) (hd : dots ps ≤ 1048576) : Fair T M ps ∧ 0 < ps.length := by
 unfold rightB at h; simp only [Bool.and_eq_true, decide_eq_true_eq] at h; obtain ⟨⟨h1, h2, h3, h4⟩, h5, h6⟩ := h; refine ⟨⟨h1, h2, h3, hd, ?_, fun p hp r hr => ?_⟩, by omega⟩
 ·cases ps with
  | nil => exact absurd rfl h4
  | cons q qs =>
   intro p hp; rcases List.mem_cons.1 hp with rfl | hp
   ·unfold zeroB at h6; simp only [Bool.and_eq_true] at h6; have h7 : p.f0 = -1 := by
     have h8 : (p.f0 == -1) = true := h6.1
     simpa using h8
    omega
   ·simp only [rowsB, Bool.and_eq_true] at h5; have := rowsB_lhs qs 1 (by decide) h5.2 p hp
    omega
 ·have := List.all_eq_true.1 (rowsB_all ps 0 h5 p hp) r hr; unfold refB at this; simp at this; omega
noncomputable def bldR (T M : Nat) (ps : List S77) : BR := by
 classical
 exact if h : rightB T M ps = true ∧ dots ps ≤ 1048576 then
  buildS T ps (zbf (build_data (fair_of h.1 h.2).1 (fair_of h.1 h.2).2).choose_spec.choose.1 (build_data (fair_of h.1 h.2).1 (fair_of h.1 h.2).2).choose_spec.choose.2 0 ps) (build_data (fair_of h.1 h.2).1 (fair_of h.1 h.2).2).choose_spec.choose_spec.2.2.2.2.choose_spec.choose_spec.choose
 else .inr (43, -1, -1)
set_option maxRecDepth 100000 in
set_option maxHeartbeats 4000000 in
theorem sets_wrong (A : Option Addr) (c : Nat) (l : List S112) (B : Option Addr) (d : Nat) (m : List S115) (C : Option Addr) (e : Nat) (ps : List S77) (w : World)
  (hg : GR w A c l B d m C e ps) (kr : Nat) (hri : items_right.f kr l m ps = some false) :
  Calls Tryd.prog 40 #[.agg #[.slice A l.length c, .slice B m.length d, .slice C ps.length e]] w fun e w' => e = .returned (.tuple #[.slice none 0 0, .slice none 0 0, .int .i64 43]) ∧ Below w.heap.size w w' := by
 have hbA := zab (Below.refl w.heap.size w) (.cells #[.slice A l.length c, .slice B m.length d, .slice C ps.length e] 51); have HG1 := Lib.hid (hg.below hbA); have HBA := Lib.hid hbA; have HRI := Lib.hid hri; clear hg hbA hri
 go_enter Tryd.func40, Tryd.ntmps40
 go_wp2_with (go_at_call 63; refine (items_right.calls kr A c l B d m C e ps false _ HG1.out.hA HG1.out.cA HG1.out.hB HG1.out.cB HG1.out.hC HG1.out.cC HRI.out).mono ?_; rintro e1 w1 ⟨rfl, hb1⟩; refine Hid.out ?_)
 refine Lib.hid ?_; have HB1 := Lib.hid (zam HBA.out hb1); clear hb1 HBA HG1
 go_wp2_with fail
 go_ret3; exact ⟨rfl, HB1.out⟩
set_option maxRecDepth 100000 in
set_option maxHeartbeats 4000000 in
theorem build_wrong (A : Option Addr) (c : Nat) (l : List S112) (B : Option Addr) (d : Nat) (m : List S115) (C : Option Addr) (e : Nat) (ps : List S77) (w : World)
  (hg : GR w A c l B d m C e ps) (kr : Nat) (hri : items_right.f kr l m ps = some false) :
  Calls Tryd.prog 20 #[.agg #[.slice A l.length c, .slice B m.length d, .slice C ps.length e]] w (RetBuild w (.inr (43, -1, -1))) := by
 have hb0 := zab (zab (Below.refl w.heap.size w) (.cells #[.slice A l.length c, .slice B m.length d, .slice C ps.length e] 51)) (.cells #[.slice none 0 0, .slice none 0 0] 25); have HB0 := Lib.hid hb0; have HCALL := Lib.hid (sets_wrong A c l B d m C e ps _ (hg.below hb0) kr hri); have HX := Lib.hid (zad (zav w (.cells #[.slice A l.length c, .slice B m.length d, .slice C ps.length e] 51)) (.cells #[.slice none 0 0, .slice none 0 0] 25)); have hrb := zav (w.alloc (.cells #[.slice A l.length c, .slice B m.length d, .slice C ps.length e] 51)) (.cells #[.slice none 0 0, .slice none 0 0] 25); rw [szA] at hrb; have HRB := Lib.hid hrb; clear hb0 hg hrb hri
 go_enter Tryd.func20, Tryd.ntmps20
 go_wp2_with ((with_reducible refine gate_ (.load 51 (.tmp 1)) rfl ?_); refine Hid.out ?_)
 refine Lib.hid ?_; generalize (w.alloc (.cells #[.slice A l.length c, .slice B m.length d, .slice C ps.length e] 51)).alloc (.cells #[.slice none 0 0, .slice none 0 0] 25) = w2 at *; have hge : w.heap.size ≤ w.heap.size + 1 := Nat.le_succ _; generalize w.heap.size + 1 = rb at *; have x0 := zac HX.out 0; have x1 := zac HX.out 1; have x2 := zac HX.out 2; simp at x0 x1 x2
 go_wp2_with (go_at_call 40; refine (HCALL.out).mono ?_; rintro e1 w3 ⟨rfl, hb3⟩; refine Hid.out ?_)
 refine Lib.hid ?_; have HB3 := Lib.hid (zam HB0.out hb3); have HR3 := Lib.hid (zal HRB.out hb3); have r0 := zac HR3.out 0; have r0f := zak HR3.out 0; have r1 := zac HR3.out 1; have r1f := zak HR3.out 1; simp at r0 r1; clear hb3 x0 x1 x2 HX HCALL HB0 HRB
 go_wp2_with fail
 refine bodyPost_ret (results_cttt rfl _ _ rb 25 #[.slice none 0 0, .slice none 0 0] (0, 0) _ rfl (zar (cs' := #[.slice none 0 0, .slice none 0 0]) (zar (cs' := #[.slice none 0 0, .slice none 0 0]) HR3.out 0 _ rfl) 1 _ rfl) Tryd.underlying25 rfl (by kernel_rfl)) rfl ?_
 exact ⟨zae (zae HB3.out hge) hge, rfl⟩
theorem build_all (A : Option Addr) (c : Nat) (l : List S112) (B : Option Addr) (d : Nat) (m : List S115) (C : Option Addr) (e : Nat) (ps : List S77) (w : World)
  (hg : GR w A c l B d m C e ps) (hd : dots ps ≤ 1048576) (hT : Tab64 w) (het : Dec.ErrType w) :
  Calls Tryd.prog 20 #[.agg #[.slice A l.length c, .slice B m.length d, .slice C ps.length e]] w (RetBuild w (bldR l.length m.length ps)) := by
 obtain ⟨kr, hkr⟩ := (right_ev l m ps (by have := dots_len ps; omega) (fun p hp => by have := dots_mem hp; omega)).rounds
 unfold bldR; by_cases hr : rightB l.length m.length ps = true
 ·rw [dif_pos ⟨hr, hd⟩]; rw [hr] at hkr; have hfp := fair_of hr hd; obtain ⟨h1, h2, h3, h4, h5⟩ := (build_data hfp.1 hfp.2).choose_spec.choose_spec; obtain ⟨h6, h7⟩ := h5.choose_spec.choose_spec.choose_spec; exact build_any A c l B d m C e ps w hg hfp.1 kr hkr _ _ h1 h2 hT h3 h4 hfp.2 _ _ _ h6 h7 het
 ·rw [dif_neg (fun h => hr h.1)]
  have hr' : rightB l.length m.length ps = false := by simpa using hr
  rw [hr'] at hkr; exact build_wrong A c l B d m C e ps w hg kr hkr
end Bld
end Go.Proofs.YtcijanmckhlpiaaDoor
