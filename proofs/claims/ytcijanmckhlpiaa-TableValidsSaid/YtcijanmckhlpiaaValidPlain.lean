import Derived.Test.YtcijanmckhlpiaaPTableValidsx3
import Derived.Test.YtcijanmckhlpiaaPTableValidsx4
namespace Go.Proofs.Ytcijanmckhlpiaa
open Go.RowKit Go.Proofs.YtcijanmckhlpiaaW.PrintWords Go.Proofs.YtcijanmckhlpiaaW.PrintLast Go.Proofs.YtcijanmckhlpiaaW.PrintMore Go.Proofs.Ytcijanmckhlpiaa.PTableValids
set_option linter.unusedVariables false
set_option linter.unusedSimpArgs false

theorem w64_nat {i : Nat} (h : i + 1 ≤ 9223372036854775807) : wrap64 ((i : Int) + 1) = ((i + 1 : Nat) : Int) := by unfold wrap64; omega

/-- The valid set of a row's actions from number i on. -/
def vgo (acc : Int) (i : Nat) : List S80 → Int
  | [] => acc
  | a :: r => if a.f0 = 0 then vgo acc (i + 1) r else if i < 64 then vgo (Go.bits .or .u64 acc (shl .u64 1 (i : Int))) (i + 1) r else vgo acc (i + 1) r
theorem vgo_over (l : List S80) : ∀ (acc : Int) (i : Nat), 64 ≤ i → vgo acc i l = acc := by
  induction l with
  | nil => intro acc i h; rfl
  | cons a r ih =>
    intro acc i h
    unfold vgo
    rw [if_neg (show ¬ i < 64 by omega), ih _ _ (by omega), ite_self]
theorem rdT_get (row : List S80) (i : Nat) (h : i < row.length) : rd_T80 row (i : Int) = row[i] := by
  unfold rd_T80
  rw [Int.toNat_natCast, List.getD_eq_getElem?_getD, List.getElem?_eq_getElem h]; rfl

theorem valid_loop (row : List S80) (hr : row.length ≤ 9223372036854775807) : ∀ (d i : Nat), row.length - i = d → i ≤ row.length → ∀ acc : Int, Ev (fun k => table_Valid.l0 k acc row (row.length : Int) (i : Int)) (vgo acc i (row.drop i)) := by
  intro d
  induction d with
  | zero =>
    intro i hd hi acc
    refine Ev.step (f := fun _ => some acc) (fun k => ?_) ?_
    · simp only [table_Valid.l0]; rw [if_neg (by omega)]
    · rw [List.drop_eq_nil_of_le (by omega)]; exact Ev.now acc
  | succ d ih =>
    intro i hd hi acc
    have hlt : i < row.length := by omega
    have hs : ∀ k, table_Valid.l0 (k + 1) acc row (row.length : Int) (i : Int) = (if (row[i]).f0 = 0 then (table_Valid.l0 k acc row (row.length : Int) ((i + 1 : Nat) : Int)) else (if i < 64 then (table_Valid.l0 k (Go.bits .or .u64 acc (shl .u64 1 (i : Int))) row (row.length : Int) ((i + 1 : Nat) : Int)) else (table_Valid.l0 k acc row (row.length : Int) ((i + 1 : Nat) : Int)))) := by
      intro k
      simp only [table_Valid.l0]
      rw [if_pos (by omega), if_pos (by omega), if_pos (by omega), rdT_get row i hlt, w64_nat (by omega)]
      by_cases h : i < 64
      · rw [if_pos h, if_pos (show (i : Int) < 64 by omega)]
      · rw [if_neg h, if_neg (show ¬ (i : Int) < 64 by omega)]
    refine Ev.step hs ?_
    rw [List.drop_eq_getElem_cons hlt]
    unfold vgo
    by_cases h0 : (row[i]).f0 = 0
    · simp only [if_pos h0]; exact ih (i + 1) (by omega) (by omega) acc
    · simp only [if_neg h0]
      by_cases h : i < 64
      · simp only [if_pos h]; exact ih (i + 1) (by omega) (by omega) _
      · simp only [if_neg h]; exact ih (i + 1) (by omega) (by omega) _

def vspec (l : List (List S80)) (a : Int) : Int := if 0 ≤ a ∧ a < l.length then vgo 0 0 (rd_L2 l a) else 0
theorem valid_ev (l : List (List S80)) (m : List (List Int)) (a : Int) (hr : ∀ x ∈ l, x.length ≤ 9223372036854775807) : Ev (fun k => table_Valid.f k l m a) (vspec l a) := by
  unfold table_Valid.f vspec
  by_cases h : 0 ≤ a ∧ a < l.length
  · have hx : (rd_L2 l a).length ≤ 9223372036854775807 := by
      refine hr _ ?_
      unfold rd_L2
      rw [List.getD_eq_getElem?_getD, List.getElem?_eq_getElem (by omega)]
      exact List.getElem_mem _
    rw [if_pos h]
    refine Ev.congr (f := fun k => table_Valid.j0 k a false l m) (fun k => ?_) ?_
    · rw [if_neg (by omega), decide_eq_false (by omega)]
    · refine Ev.step (f := fun k => table_Valid.l0 k 0 (rd_L2 l a) ((rd_L2 l a).length : Int) ((0 : Nat) : Int)) (fun k => ?_) ?_
      · simp only [table_Valid.j0]
        rw [if_neg (by decide), if_pos h.1, if_pos h.2]
        rfl
      · exact valid_loop _ hx _ 0 rfl (Nat.zero_le _) 0
  · rw [if_neg h]
    refine Ev.congr (f := fun k => table_Valid.j0 k a true l m) (fun k => ?_) ?_
    · by_cases h1 : a < 0
      · rw [if_pos h1]
      · rw [if_neg h1, decide_eq_true (by omega)]
    · exact Ev.step (f := fun _ => some 0) (fun k => by simp only [table_Valid.j0]; rw [if_pos trivial]) (Ev.now 0)

theorem rvalid_loop (l : List (List S80)) (m : List (List Int)) (a : Int) (h0 : 0 ≤ a) (h1 : a < l.length) (hr : (rd_L2 l a).length ≤ 9223372036854775807) : ∀ (d i : Nat), (rd_L2 l a).length - i = d → i ≤ (rd_L2 l a).length → ∀ acc : Int, Ev (fun k => trellisref13_Valid.l0 k a acc (i : Int) l m) (vgo acc i ((rd_L2 l a).drop i)) := by
  intro d
  induction d with
  | zero =>
    intro i hd hi acc
    refine Ev.step (f := fun k => trellisref13_Valid.j2 k a acc i false l m) (fun k => ?_) ?_
    · simp only [trellisref13_Valid.l0]; rw [if_pos h0, if_pos h1, if_neg (by omega)]
    · rw [List.drop_eq_nil_of_le (by omega)]
      exact Ev.step (f := fun _ => some acc) (fun k => by simp only [trellisref13_Valid.j2]; rw [if_neg (by decide)]) (Ev.now acc)
  | succ d ih =>
    intro i hd hi acc
    have hlt : i < (rd_L2 l a).length := by omega
    by_cases h64 : i < 64
    · refine Ev.step (f := fun k => trellisref13_Valid.j2 k a acc i true l m) (fun k => ?_) ?_
      · simp only [trellisref13_Valid.l0]; rw [if_pos h0, if_pos h1, if_pos (by omega), decide_eq_true (by omega)]
      · have hw : IntKind.u64.wrap (i : Int) = (i : Int) := by
          simp only [IntKind.wrap, IntKind.bits, IntKind.signed, Bool.false_and, if_false, Bool.false_eq_true]
          exact Int.emod_eq_of_lt (by omega) (by omega)
        refine Ev.step (f := fun k => (if ((rd_L2 l a)[i]).f0 = 0 then (trellisref13_Valid.l0 k a acc ((i + 1 : Nat) : Int) l m) else (trellisref13_Valid.l0 k a (Go.bits .or .u64 acc (shl .u64 1 (i : Int))) ((i + 1 : Nat) : Int) l m))) (fun k => ?_) ?_
        · simp only [trellisref13_Valid.j2]
          rw [if_pos trivial, if_pos h0, if_pos h1, if_pos (by omega), if_pos (by omega), rdT_get _ i hlt, w64_nat (by omega), hw, if_pos (show (0 : Int) ≤ (i : Int) by omega)]
        · rw [List.drop_eq_getElem_cons hlt]
          unfold vgo
          by_cases hz : ((rd_L2 l a)[i]).f0 = 0
          · simp only [if_pos hz]; exact ih (i + 1) (by omega) (by omega) acc
          · simp only [if_neg hz, if_pos h64]; exact ih (i + 1) (by omega) (by omega) _
    · rw [vgo_over _ _ _ (by omega)]
      refine Ev.step (f := fun k => trellisref13_Valid.j2 k a acc i false l m) (fun k => ?_) ?_
      · simp only [trellisref13_Valid.l0]; rw [if_pos h0, if_pos h1, if_pos (by omega), decide_eq_false (by omega)]
      · exact Ev.step (f := fun _ => some acc) (fun k => by simp only [trellisref13_Valid.j2]; rw [if_neg (by decide)]) (Ev.now acc)
theorem rvalid_ev (l : List (List S80)) (m : List (List Int)) (a : Int) (hr : ∀ x ∈ l, x.length ≤ 9223372036854775807) : Ev (fun k => trellisref13_Valid.f k l m a) (vspec l a) := by
  unfold trellisref13_Valid.f vspec
  by_cases h : 0 ≤ a ∧ a < l.length
  · have hx : (rd_L2 l a).length ≤ 9223372036854775807 := by
      refine hr _ ?_
      unfold rd_L2
      rw [List.getD_eq_getElem?_getD, List.getElem?_eq_getElem (by omega)]
      exact List.getElem_mem _
    rw [if_pos h]
    refine Ev.congr (f := fun k => trellisref13_Valid.j0 k a 0 false l m) (fun k => ?_) ?_
    · rw [if_neg (by omega), decide_eq_false (by omega)]
    · refine Ev.step (f := fun k => trellisref13_Valid.l0 k a 0 ((0 : Nat) : Int) l m) (fun k => ?_) ?_
      · simp only [trellisref13_Valid.j0]
        rw [if_neg (by decide)]
        rfl
      · exact rvalid_loop l m a h.1 h.2 hx _ 0 rfl (Nat.zero_le _) 0
  · rw [if_neg h]
    refine Ev.congr (f := fun k => trellisref13_Valid.j0 k a 0 true l m) (fun k => ?_) ?_
    · by_cases h1 : a < 0
      · rw [if_pos h1]
      · rw [if_neg h1, decide_eq_true (by omega)]
    · exact Ev.step (f := fun _ => some 0) (fun k => by simp only [trellisref13_Valid.j0]; rw [if_pos trivial]) (Ev.now 0)

/-! ### a table is the same as itself -/
theorem rdL2_mem (l : List (List S80)) (s : Nat) (h : s < l.length) : rd_L2 l s ∈ l := by
  unfold rd_L2; rw [Int.toNat_natCast, List.getD_eq_getElem?_getD, List.getElem?_eq_getElem h]; exact List.getElem_mem h
theorem rdL3_mem (l : List (List Int)) (s : Nat) (h : s < l.length) : rd_L3 l s ∈ l := by
  unfold rd_L3; rw [Int.toNat_natCast, List.getD_eq_getElem?_getD, List.getElem?_eq_getElem h]; exact List.getElem_mem h
theorem same_l3 (l : List (List S80)) (m : List (List Int)) (s : Nat) (hs : s < m.length) (hm : m.length ≤ 9223372036854775806) (hr : (rd_L3 m s).length ≤ 9223372036854775807) (hnext : Ev (fun k => trellislaw13_same.l2 k ((s + 1 : Nat) : Int) l m l m) true) :
    ∀ (d i : Nat), (rd_L3 m s).length - i = d → i ≤ (rd_L3 m s).length → Ev (fun k => trellislaw13_same.l3 k s i l m l m) true := by
  intro d
  induction d with
  | zero =>
    intro i hd hi
    refine Ev.step (fun k => ?_) hnext
    simp only [trellislaw13_same.l3]
    rw [if_pos (by omega), if_pos (by omega), if_neg (by omega), w64_nat (by omega)]
  | succ d ih =>
    intro i hd hi
    refine Ev.step (fun k => ?_) (ih (i + 1) (by omega) (by omega))
    simp only [trellislaw13_same.l3]
    rw [if_pos (by omega), if_pos (by omega), if_pos (by omega), if_pos (by omega), if_pos (by omega), if_pos (by omega), if_pos trivial, w64_nat (by omega)]
theorem same_l2 (l : List (List S80)) (m : List (List Int)) (hm : m.length ≤ 9223372036854775806) (hr : ∀ x ∈ m, x.length ≤ 9223372036854775807) : ∀ (d s : Nat), m.length - s = d → s ≤ m.length → Ev (fun k => trellislaw13_same.l2 k s l m l m) true := by
  intro d
  induction d with
  | zero =>
    intro s hd hs
    refine Ev.step (f := fun _ => some true) (fun k => ?_) (Ev.now true)
    simp only [trellislaw13_same.l2]
    rw [if_neg (by omega)]
  | succ d ih =>
    intro s hd hs
    refine Ev.step (fun k => ?_) (same_l3 l m s (by omega) hm (hr _ (rdL3_mem m s (by omega))) (ih (s + 1) (by omega) (by omega)) _ 0 rfl (Nat.zero_le _))
    simp only [trellislaw13_same.l2]
    rw [if_pos (by omega), if_pos (by omega), if_pos (by omega), if_pos trivial]
    rfl
theorem same_l1 (l : List (List S80)) (m : List (List Int)) (s : Nat) (hs : s < l.length) (hm : l.length ≤ 9223372036854775806) (hr : (rd_L2 l s).length ≤ 9223372036854775807) (hnext : Ev (fun k => trellislaw13_same.l0 k ((s + 1 : Nat) : Int) l m l m) true) :
    ∀ (d i : Nat), (rd_L2 l s).length - i = d → i ≤ (rd_L2 l s).length → Ev (fun k => trellislaw13_same.l1 k s i l m l m) true := by
  intro d
  induction d with
  | zero =>
    intro i hd hi
    refine Ev.step (fun k => ?_) hnext
    simp only [trellislaw13_same.l1]
    rw [if_pos (by omega), if_pos (by omega), if_neg (by omega), w64_nat (by omega)]
  | succ d ih =>
    intro i hd hi
    refine Ev.step (fun k => ?_) (ih (i + 1) (by omega) (by omega))
    simp only [trellislaw13_same.l1]
    rw [if_pos (by omega), if_pos (by omega), if_pos (by omega), if_pos (by omega), if_pos (by omega), if_pos (by omega), w64_nat (by omega)]
    simp
theorem same_l0 (l : List (List S80)) (m : List (List Int)) (hl : l.length ≤ 9223372036854775806) (hr : ∀ x ∈ l, x.length ≤ 9223372036854775807) (hnext : Ev (fun k => trellislaw13_same.l2 k ((0 : Nat) : Int) l m l m) true) :
    ∀ (d s : Nat), l.length - s = d → s ≤ l.length → Ev (fun k => trellislaw13_same.l0 k s l m l m) true := by
  intro d
  induction d with
  | zero =>
    intro s hd hs
    refine Ev.step (fun k => ?_) hnext
    simp only [trellislaw13_same.l0]
    rw [if_neg (by omega)]
    rfl
  | succ d ih =>
    intro s hd hs
    refine Ev.step (fun k => ?_) (same_l1 l m s (by omega) hl (hr _ (rdL2_mem l s (by omega))) (ih (s + 1) (by omega) (by omega)) _ 0 rfl (Nat.zero_le _))
    simp only [trellislaw13_same.l0]
    rw [if_pos (by omega), if_pos (by omega), if_pos (by omega), if_pos trivial]
    rfl
theorem same_ev (l : List (List S80)) (m : List (List Int)) (hl : l.length ≤ 9223372036854775806) (hm : m.length ≤ 9223372036854775806) (hrl : ∀ x ∈ l, x.length ≤ 9223372036854775807) (hrm : ∀ x ∈ m, x.length ≤ 9223372036854775807) :
    Ev (fun k => trellislaw13_same.f k l m l m) true := by
  unfold trellislaw13_same.f
  refine Ev.congr (f := fun k => trellislaw13_same.j0 k false l m l m) (fun k => by rw [if_pos rfl, bne_self_eq_false]) ?_
  refine Ev.step (fun k => ?_) (same_l0 l m hl hrl (same_l2 l m hm hrm _ 0 rfl (Nat.zero_le _)) _ 0 rfl (Nat.zero_le _))
  simp only [trellislaw13_same.j0]
  rw [if_neg (by decide)]
  rfl
end Go.Proofs.Ytcijanmckhlpiaa
