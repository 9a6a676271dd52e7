import Derived.Test.YtcijanmckhlpiaaDoorPTableDecodesx4
namespace Go.Proofs.YtcijanmckhlpiaaDoor
open Go.RowKit Go.Proofs.YtcijanmckhlpiaaDoorW.PrintWords Go.Proofs.YtcijanmckhlpiaaDoorW.PrintLast Go.Proofs.YtcijanmckhlpiaaDoorW.PrintMore Go.Proofs.YtcijanmckhlpiaaDoor.PTableDecodes
set_option linter.unusedVariables false
set_option linter.unusedSimpArgs false
namespace Dec
theorem w64_nat {i : Nat} (h : i + 1 ≤ 9223372036854775807) : wrap64 ((i : Int) + 1) = ((i + 1 : Nat) : Int) := by unfold wrap64; omega

/-! ### a table is the same as itself -/
theorem rdL2_mem (l : List (List S93)) (s : Nat) (h : s < l.length) : rd_L2 l s ∈ l := by
  unfold rd_L2; rw [Int.toNat_natCast, List.getD_eq_getElem?_getD, List.getElem?_eq_getElem h]; exact List.getElem_mem h
theorem rdL3_mem (l : List (List Int)) (s : Nat) (h : s < l.length) : rd_L3 l s ∈ l := by
  unfold rd_L3; rw [Int.toNat_natCast, List.getD_eq_getElem?_getD, List.getElem?_eq_getElem h]; exact List.getElem_mem h
theorem same_l3 (l : List (List S93)) (m : List (List Int)) (s : Nat) (hs : s < m.length) (hm : m.length ≤ 9223372036854775806) (hr : (rd_L3 m s).length ≤ 9223372036854775807) (hnext : Ev (fun k => trellislaw13_same.l2 k ((s + 1 : Nat) : Int) l m l m) true) :
    ∀ (d i : Nat), (rd_L3 m s).length - i = d → i ≤ (rd_L3 m s).length → Ev (fun k => trellislaw13_same.l3 k s i l m l m) true := by
  intro d
  induction d with
  | zero =>
    intro i hd hi
    refine Ev.step (fun k => ?_) hnext
    simp only [trellislaw13_same.l3]
    rw [if_pos (by omega), if_pos (by omega), if_neg (by omega), w64_nat (by omega)]
  | succ d ih =>
    intro i hd hi
    refine Ev.step (fun k => ?_) (ih (i + 1) (by omega) (by omega))
    simp only [trellislaw13_same.l3]
    rw [if_pos (by omega), if_pos (by omega), if_pos (by omega), if_pos (by omega), if_pos (by omega), if_pos (by omega), if_pos trivial, w64_nat (by omega)]
theorem same_l2 (l : List (List S93)) (m : List (List Int)) (hm : m.length ≤ 9223372036854775806) (hr : ∀ x ∈ m, x.length ≤ 9223372036854775807) : ∀ (d s : Nat), m.length - s = d → s ≤ m.length → Ev (fun k => trellislaw13_same.l2 k s l m l m) true := by
  intro d
  induction d with
  | zero =>
    intro s hd hs
    refine Ev.step (f := fun _ => some true) (fun k => ?_) (Ev.now true)
    simp only [trellislaw13_same.l2]
    rw [if_neg (by omega)]
  | succ d ih =>
    intro s hd hs
    refine Ev.step (fun k => ?_) (same_l3 l m s (by omega) hm (hr _ (rdL3_mem m s (by omega))) (ih (s + 1) (by omega) (by omega)) _ 0 rfl (Nat.zero_le _))
    simp only [trellislaw13_same.l2]
    rw [if_pos (by omega), if_pos (by omega), if_pos (by omega), if_pos trivial]
    rfl
theorem same_l1 (l : List (List S93)) (m : List (List Int)) (s : Nat) (hs : s < l.length) (hm : l.length ≤ 9223372036854775806) (hr : (rd_L2 l s).length ≤ 9223372036854775807) (hnext : Ev (fun k => trellislaw13_same.l0 k ((s + 1 : Nat) : Int) l m l m) true) :
    ∀ (d i : Nat), (rd_L2 l s).length - i = d → i ≤ (rd_L2 l s).length → Ev (fun k => trellislaw13_same.l1 k s i l m l m) true := by
  intro d
  induction d with
  | zero =>
    intro i hd hi
    refine Ev.step (fun k => ?_) hnext
    simp only [trellislaw13_same.l1]
    rw [if_pos (by omega), if_pos (by omega), if_neg (by omega), w64_nat (by omega)]
  | succ d ih =>
    intro i hd hi
    refine Ev.step (fun k => ?_) (ih (i + 1) (by omega) (by omega))
    simp only [trellislaw13_same.l1]
    rw [if_pos (by omega), if_pos (by omega), if_pos (by omega), if_pos (by omega), if_pos (by omega), if_pos (by omega), w64_nat (by omega)]
    simp
theorem same_l0 (l : List (List S93)) (m : List (List Int)) (hl : l.length ≤ 9223372036854775806) (hr : ∀ x ∈ l, x.length ≤ 9223372036854775807) (hnext : Ev (fun k => trellislaw13_same.l2 k ((0 : Nat) : Int) l m l m) true) :
    ∀ (d s : Nat), l.length - s = d → s ≤ l.length → Ev (fun k => trellislaw13_same.l0 k s l m l m) true := by
  intro d
  induction d with
  | zero =>
    intro s hd hs
    refine Ev.step (fun k => ?_) hnext
    simp only [trellislaw13_same.l0]
    rw [if_neg (by omega)]
    rfl
  | succ d ih =>
    intro s hd hs
    refine Ev.step (fun k => ?_) (same_l1 l m s (by omega) hl (hr _ (rdL2_mem l s (by omega))) (ih (s + 1) (by omega) (by omega)) _ 0 rfl (Nat.zero_le _))
    simp only [trellislaw13_same.l0]
    rw [if_pos (by omega), if_pos (by omega), if_pos (by omega), if_pos trivial]
    rfl
theorem same_ev (l : List (List S93)) (m : List (List Int)) (hl : l.length ≤ 9223372036854775806) (hm : m.length ≤ 9223372036854775806) (hrl : ∀ x ∈ l, x.length ≤ 9223372036854775807) (hrm : ∀ x ∈ m, x.length ≤ 9223372036854775807) :
    Ev (fun k => trellislaw13_same.f k l m l m) true := by
  unfold trellislaw13_same.f
  refine Ev.congr (f := fun k => trellislaw13_same.j0 k false l m l m) (fun k => by rw [if_pos rfl, bne_self_eq_false]) ?_
  refine Ev.step (fun k => ?_) (same_l0 l m hl hrl (same_l2 l m hm hrm _ 0 rfl (Nat.zero_le _)) _ 0 rfl (Nat.zero_le _))
  simp only [trellislaw13_same.j0]
  rw [if_neg (by decide)]
  rfl
end Dec
end Go.Proofs.YtcijanmckhlpiaaDoor
