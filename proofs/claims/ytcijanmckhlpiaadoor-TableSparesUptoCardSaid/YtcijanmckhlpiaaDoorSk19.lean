-- Texts of this seat, cut to what is used and merged (by shake.py).
import Derived.Test.YtcijanmckhlpiaaDoorSk16
import Derived.Test.YtcijanmckhlpiaaDoorSk17
import Derived.Test.YtcijanmckhlpiaaDoorSk18
set_option linter.unusedVariables false
set_option linter.unusedSimpArgs false
namespace Go.Proofs.YtcijanmckhlpiaaDoor.PTableBack
open Go.RowKit Go.Proofs.YtcijanmckhlpiaaDoorW.PrintWords Go.Proofs.YtcijanmckhlpiaaDoorW.PrintLast Go.Proofs.YtcijanmckhlpiaaDoorW.PrintMore
attribute [local go_sem] max2_int min2_int max_two min_two max_three min_three max_four min_four
mutual
def table_Encode.l0 : Nat → List Int → List Int → Int → Int → List (List (S93)) → List (List Int) → Option (ByteArray)
 | 0, _, _, _, _, _, _ => none
 | k + 1, x3, x31, x32, x33, x218000, x218001 => if x33 < x32 then (if 0 ≤ x33 then (if x33 < (x31.length : Int) then ((table_count.f k x3 (rd x31 x33)).bind fun t228 => (table_Encode.l0 k t228 x31 x32 (wrap64 (x33 + 1)) x218000 x218001)) else (none)) else (none)) else (table_Encode.l1 k x3 x218000 (x218000.length : Int) 0 x218000 x218001)
def table_Encode.l1 : Nat → List Int → List (List (S93)) → Int → Int → List (List (S93)) → List (List Int) → Option (ByteArray)
 | 0, _, _, _, _, _, _ => none
 | k + 1, x3, x42, x43, x44, x218000, x218001 => if x44 < x43 then (if 0 ≤ x44 then (if x44 < (x42.length : Int) then (table_Encode.l2 k x3 x42 x43 x44 (rd_L2 x42 x44) ((rd_L2 x42 x44).length : Int) 0 x218000 x218001) else (none)) else (none)) else (table_Encode.l3 k x3 x218001 (x218001.length : Int) 0)
def table_Encode.l2 : Nat → List Int → List (List (S93)) → Int → Int → List (S93) → Int → Int → List (List (S93)) → List (List Int) → Option (ByteArray)
 | 0, _, _, _, _, _, _, _, _, _ => none
 | k + 1, x3, x42, x43, x44, x48, x49, x50, x218000, x218001 => if x50 < x49 then (if 0 ≤ x50 then (if x50 < (x48.length : Int) then (if ((rd_T93 x48 x50).f0) = 0 then ((table_count.f k x3 0).bind fun t234 => (table_Encode.l2 k t234 x42 x43 x44 x48 x49 (wrap64 (x50 + 1)) x218000 x218001)) else (if ((rd_T93 x48 x50).f0) = 3 then ((table_count.f k x3 1).bind fun t237 => (table_Encode.l2 k t237 x42 x43 x44 x48 x49 (wrap64 (x50 + 1)) x218000 x218001)) else (if ((rd_T93 x48 x50).f0) = 1 then ((table_count.f k x3 (wrap64 ((wrap64 (2 * ((rd_T93 x48 x50).f1))) + 2))).bind fun t240 => (table_Encode.l2 k t240 x42 x43 x44 x48 x49 (wrap64 (x50 + 1)) x218000 x218001)) else (if ((rd_T93 x48 x50).f0) = 2 then ((table_count.f k x3 (wrap64 ((wrap64 (2 * ((rd_T93 x48 x50).f1))) + 3))).bind fun t243 => (table_Encode.l2 k t243 x42 x43 x44 x48 x49 (wrap64 (x50 + 1)) x218000 x218001)) else (table_Encode.l2 k x3 x42 x43 x44 x48 x49 (wrap64 (x50 + 1)) x218000 x218001))))) else (none)) else (none)) else (table_Encode.l1 k x3 x42 x43 (wrap64 (x44 + 1)) x218000 x218001)
def table_Encode.l3 : Nat → List Int → List (List Int) → Int → Int → Option (ByteArray)
 | 0, _, _, _, _ => none
 | k + 1, x3, x83, x84, x85 => if x85 < x84 then (if 0 ≤ x85 then (if x85 < (x83.length : Int) then (table_Encode.l4 k x3 x83 x84 x85 (rd_L3 x83 x85) ((rd_L3 x83 x85).length : Int) 0) else (none)) else (none)) else (some (strOfNums x3))
def table_Encode.l4 : Nat → List Int → List (List Int) → Int → Int → List Int → Int → Int → Option (ByteArray)
 | 0, _, _, _, _, _, _, _ => none
 | k + 1, x3, x83, x84, x85, x89, x90, x91 => if x91 < x90 then (if 0 ≤ x91 then (if x91 < (x89.length : Int) then ((table_count.f k x3 (wrap64 ((rd x89 x91) + 1))).bind fun t248 => (table_Encode.l4 k t248 x83 x84 x85 x89 x90 (wrap64 (x91 + 1)))) else (none)) else (none)) else (table_Encode.l3 k x3 x83 x84 (wrap64 (x85 + 1)))
end
def table_Encode.f (k : Nat) (l0_0 : List (List (S93))) (l0_1 : List (List Int)) : Option (ByteArray) := (table_shaped.f k l0_0 l0_1).bind fun t218 => (if t218 = true then (if 0 < (l0_0.length : Int) then (if 0 < (l0_1.length : Int) then ((some (([(l0_0.length : Int), ((rd_L2 l0_0 0).length : Int), ((rd_L3 l0_1 0).length : Int)] : List Int) : List Int)).bind fun y224 => (table_Encode.l0 k (([84, 1] : List Int)) y224 (y224.length : Int) 0 l0_0 l0_1)) else (none)) else (none)) else (some (⟨#[]⟩ : ByteArray)))
def table_Encode.T4 : Bool × List (List Nat × List Nat) := (true, [([], []), ([0], [0]), ([1], [1]), ([], []), ([3], [3]), ([4], [4]), ([5], [5]), ([6], [6]), ([], []), ([8], [8]), ([9], [9]), ([10], [10]), ([11], [11]), ([2, 7, 12], [2, 7, 12]), ([13], [13]), ([], [])])
def table_Encode.B4 : List Nat := [0, 1, 3, 0, 8, 24, 56, 120, 0, 256, 768, 1792, 3840, 8191, 16383, 0]
theorem table_Encode.tab4 : rtab .any (opsOf Tryd.f24 4) = table_Encode.T4 := by kernel_rfl
theorem table_Encode.bits4 : waitsOk table_Encode.T4.2 table_Encode.B4 = true := by kernel_rfl
set_option maxHeartbeats 8000000 in
set_option maxRecDepth 100000 in
theorem table_Encode.calls (k : Nat) (A0_0 : Option Addr) (c0_0 : Nat) (l0_0 : List (List (S93))) (A0_1 : Option Addr) (c0_1 : Nat) (l0_1 : List (List Int)) (r : ByteArray) (w : World) (hr0_0 : Kd.C (Kd.slice 93 k93) w A0_0 l0_0.length l0_0) (hc0_0 : l0_0.length ≤ c0_0) (hr0_1 : Kd.C (Kd.slice 3 (Kd.int .i64)) w A0_1 l0_1.length l0_1) (hc0_1 : l0_1.length ≤ c0_1) (h : table_Encode.f k l0_0 l0_1 = some r) :
  Calls Tryd.prog 24 #[.agg #[.slice A0_0 l0_0.length c0_0, .slice A0_1 l0_1.length c0_1]] w fun e w' => e = .returned (.string r) ∧ Below w.heap.size w w' := by
 have hu25 := Tryd.underlying25; have hu93 := Tryd.underlying93; have HR0_0 := zaf.mk hr0_0; have HC0_0 := zaf.mk hc0_0; clear hr0_0 hc0_0; have HR0_1 := zaf.mk hr0_1; have HC0_1 := zaf.mk hc0_1; clear hr0_1 hc0_1; have HB := zaf.mk (Below.refl w.heap.size w); have H : ((table_shaped.f k l0_0 l0_1).bind fun t218 => (if t218 = true then (if 0 < (l0_0.length : Int) then (if 0 < (l0_1.length : Int) then ((some (([(l0_0.length : Int), ((rd_L2 l0_0 0).length : Int), ((rd_L3 l0_1 0).length : Int)] : List Int) : List Int)).bind fun y224 => (table_Encode.l0 k (([84, 1] : List Int)) y224 (y224.length : Int) 0 l0_0 l0_1)) else (none)) else (none)) else (some (⟨#[]⟩ : ByteArray)))) = some r := h
 clear h; replace H := Option.bind_eq_some_iff.mp H; obtain ⟨t218, A20, H⟩ := H; replace H : (if t218 = true then (if 0 < (l0_0.length : Int) then (if 0 < (l0_1.length : Int) then ((some (([(l0_0.length : Int), ((rd_L2 l0_0 0).length : Int), ((rd_L3 l0_1 0).length : Int)] : List Int) : List Int)).bind fun y224 => (table_Encode.l0 k (([84, 1] : List Int)) y224 (y224.length : Int) 0 l0_0 l0_1)) else (none)) else (none)) else (some (⟨#[]⟩ : ByteArray))) = some r := H
 have A2 := zaf.mk A20; clear A20; by_cases c3 : t218 = true
 ·subst c3; have H1 : (if 0 < (l0_0.length : Int) then (if 0 < (l0_1.length : Int) then ((some (([(l0_0.length : Int), ((rd_L2 l0_0 0).length : Int), ((rd_L3 l0_1 0).length : Int)] : List Int) : List Int)).bind fun y224 => (table_Encode.l0 k (([84, 1] : List Int)) y224 (y224.length : Int) 0 l0_0 l0_1)) else (none)) else (none)) = some r := by rw [if_pos rfl] at H; exact H
  clear H; have H := H1; clear H1; obtain ⟨y219, hy219⟩ : ∃ y_ : List Int, y_ = (([84, 1] : List Int)) := ⟨_, rfl⟩; replace H : (if 0 < (l0_0.length : Int) then (if 0 < (l0_1.length : Int) then ((some (([(l0_0.length : Int), ((rd_L2 l0_0 0).length : Int), ((rd_L3 l0_1 0).length : Int)] : List Int) : List Int)).bind fun y224 => (table_Encode.l0 k y219 y224 (y224.length : Int) 0 l0_0 l0_1)) else (none)) else (none)) = some r := by first | (rw [hy219]; with_reducible exact H) | (have H2_ := (Option.bind_some _ _).symm.trans H; rw [hy219]; with_reducible exact H2_) | (have H2_ := (Option.bind_some _ _).symm.trans H; with_reducible exact H2_) | with_reducible exact H | (rw [hy219]; exact H) | exact H
  have Ny219 := zaf.mk hy219; clear hy219; by_cases c4 : 0 < (l0_0.length : Int)
  ·rw [if_pos c4] at H; have c4b0 : decide (0 < (l0_0.length : Int)) = true := decide_eq_true c4; have c4b1 : decide (0 < l0_0.length) = true := decide_eq_true (by omega)
   clear c4; by_cases c5 : 0 < (l0_1.length : Int)
   ·rw [if_pos c5] at H; have c5b0 : decide (0 < (l0_1.length : Int)) = true := decide_eq_true c5; have c5b1 : decide (0 < l0_1.length) = true := decide_eq_true (by omega)
    clear c5; obtain ⟨y224, hy224⟩ : ∃ y_ : List Int, y_ = (([(l0_0.length : Int), ((rd_L2 l0_0 0).length : Int), ((rd_L3 l0_1 0).length : Int)] : List Int)) := ⟨_, rfl⟩; replace H : (table_Encode.l0 k y219 y224 (y224.length : Int) 0 l0_0 l0_1) = some r := by first | (rw [hy224]; with_reducible exact H) | (have H2_ := (Option.bind_some _ _).symm.trans H; rw [hy224]; with_reducible exact H2_) | (have H2_ := (Option.bind_some _ _).symm.trans H; with_reducible exact H2_) | with_reducible exact H | (rw [hy224]; exact H) | exact H
    have Ny224 := zaf.mk hy224; clear hy224; have H' := zaf.mk H; clear H
    go_enter Tryd.func24, Tryd.ntmps24
    try go_wp2_with (first | ((with_reducible refine zbb (N := 1) rfl ?_); refine zaz ?hg (N := 1) ?hd (cs := #[.slice A0_0 l0_0.length c0_0, .slice A0_1 l0_1.length c0_1]) (t := 25) ?hr ?_; (case hd => rfl); (case hg => rfl); (case hr => first | (go_simp; done) | (go_simp; rfl)); intro gb217 hg w6 hbox hb; have n0_ := zaf.mk (zam (by repeat (first | (with_reducible first | exact HB.out | apply zab | apply zaa | apply zah) | exact HB.out)) hb); have n1_ := zaf.mk (hbox); have n2_ := zaf.mk ((by rw [hg]; exact (zan (by repeat (first | (with_reducible first | exact HB.out | apply zab | apply zaa | apply zah) | exact HB.out))) : w.heap.size ≤ gb217)); have n3_ := zaf.mk ((by rw [hg]; exact (zan (by repeat (first | (with_reducible first | exact HB.out | apply zab | apply zaa | apply zah) | exact HB.out))) : w.heap.size ≤ gb217)); clear HB; have HB := n0_; have BK217 := n1_; have GW217 := n2_; have GE217 := n3_; clear n0_ n1_ n2_ n3_; clear hb hbox hg; have hcz7_0 : w6.cell? ⟨gb217, 0, none⟩ = some (.slice A0_0 l0_0.length c0_0) := (zac BK217.out 0).trans rfl; have hcz7_1 : w6.cell? ⟨gb217, 1, none⟩ = some (.slice A0_1 l0_1.length c0_1) := (zac BK217.out 1).trans rfl; have hfz7_0 := zak BK217.out 0; have hfz7_1 := zak BK217.out 1) | ((with_reducible refine gate_callee (f := 46) rfl ?_); refine goesL_ (some 15) rfl rfl Tryd.func46 (by kernel_rfl) rfl #[.agg #[.slice A0_0 l0_0.length c0_0, .slice A0_1 l0_1.length c0_1]] rfl (by (try simp only [List.map_toArray, List.map_cons, List.map_nil]); first | done | rfl | (simp only [List.length_drop, List.length_take]; rfl)) ?_; (with_reducible refine (table_shaped.calls k _ _ l0_0 _ _ l0_1 true _ ?side1 ?side2 ?side3 ?side4 A2.out).mono ?_); (case side1 => repeat (first | exact (Kd.zaw HR0_0.out HB.out) | (with_reducible refine Kd.C_alloc ?_ _) | (with_reducible refine Kd.C_drewN ?_ _) | (with_reducible refine Kd.C_drew ?_))); (case side2 => exact HC0_0.out); (case side3 => repeat (first | exact (Kd.zaw HR0_1.out HB.out) | (with_reducible refine Kd.C_alloc ?_ _) | (with_reducible refine Kd.C_drewN ?_ _) | (with_reducible refine Kd.C_drew ?_))); (case side4 => exact HC0_1.out); rintro e w8 ⟨rfl, hb⟩; refine ⟨_, rfl, ?_⟩; have n0_ := zaf.mk (zal (g := gb217) (o := .cells #[.slice A0_0 l0_0.length c0_0, .slice A0_1 l0_1.length c0_1] 25 (0, 0)) (by (with_reducible repeat (first | apply zai | apply zaj | apply zad)); exact BK217.out) hb); have n1_ := zaf.mk (zam (by repeat (first | (with_reducible first | exact HB.out | apply zab | apply zaa | apply zah | refine zae ?_ GE217.out) | exact HB.out)) hb); clear BK217; clear HB; have BK217 := n0_; have HB := n1_; clear n0_ n1_; (try clear hb); (try clear hb2); (try clear hk); (try clear hi)) | ((with_reducible refine zbb (N := 17) rfl ?_); refine Kd.R_lit (Kd.int .u8) _ 5 ?hg (N := 17) ?hd (xs := ([84, 1] : List Int)) (inner := [.int .u8 84, .int .u8 1]) (ok := fun _ => True) (okp := fun _ => True) ?hr ?hp (fun _ hk => hk) trivial (Below.refl _ _) (Nat.le_refl _) (by simp) ?_; (case hd => rfl); (case hg => rfl); (case hr => first | (go_simp; done) | (go_simp; rfl)); (case hp => exact (Reps.one (show Kd.M (Kd.int .u8) _ _ _ 84 [.int .u8 84] from rfl) (Reps.one (show Kd.M (Kd.int .u8) _ _ _ 1 [.int .u8 1] from rfl) (Reps.none _ _)))); intro v220 w9 ho10 hb hg_ hnew_; clear hg_ hnew_; (first | rw [← Ny219.out] at ho10 | (simp only [Int.reduceToNat] at ho10; rw [← Ny219.out] at ho10)); have n0_ := zaf.mk (Kd.R_lower ho10 (zan (by repeat (first | (with_reducible first | exact HB.out | apply zab | apply zaa | apply zah | refine zae ?_ GE217.out) | exact HB.out)))); have n1_ := zaf.mk (zal (g := gb217) (o := .cells #[.slice A0_0 l0_0.length c0_0, .slice A0_1 l0_1.length c0_1] 25 (0, 0)) (by (with_reducible repeat (first | apply zai | apply zaj | apply zad)); exact BK217.out) hb); have n2_ := zaf.mk (zam (by repeat (first | (with_reducible first | exact HB.out | apply zab | apply zaa | apply zah | refine zae ?_ GE217.out) | exact HB.out)) hb); clear BK217; clear HB; have HO221 := n0_; have BK217 := n1_; have HB := n2_; clear n0_ n1_ n2_; clear hb ho10))
    have n0_ := zaf.mk (Kd.zbk HO221.out); have n1_ := zaf.mk (zaj BK217.out); have n2_ := zaf.mk (zah HB.out); clear HO221; clear BK217; clear HB; have HO221 := n0_; have BK217 := n1_; have HB := n2_; clear n0_ n1_ n2_; have p222 : 0 ≤ (0 : Int) := (by omega)
    have q222 : 0 < (l0_0.length : Int) := of_decide_eq_true (by first | (with_reducible assumption) | assumption)
    obtain ⟨ad222, A222_0, c222_0, e222, hx222_0, hl222_0, hi222_0⟩ := at_L2 HR0_0.out 0 p222 q222; have hw222_0 := hx222_0
    (try rw [show ((0 : Int)).toNat = 0 from rfl] at hw222_0)
    (try rw [show 0 * 1 = 0 from rfl] at hw222_0)
    (try rw [Addr.add_zero'] at hw222_0)
    cases e222; have qi222 : (0 < l0_0.length) = True := eq_true (by omega)
    (try rw [show ((0 : Int)).toNat = 0 from rfl] at hx222_0)
    (try rw [Addr.add_zero'] at hx222_0)
    replace hx222_0 := (HB.out.cell (World.block_lt_of_cell? w _ hx222_0)).trans hx222_0; have HR222_0 := zaf.mk hi222_0; have HC222_0 := zaf.mk hl222_0; clear hi222_0 hl222_0; replace p222 := eq_true p222; replace q222 := eq_true q222; have p223 : 0 ≤ (0 : Int) := (by omega)
    have q223 : 0 < (l0_1.length : Int) := of_decide_eq_true (by first | (with_reducible assumption) | assumption)
    obtain ⟨ad223, A223_0, c223_0, e223, hx223_0, hl223_0, hi223_0⟩ := at_L3 HR0_1.out 0 p223 q223; have hw223_0 := hx223_0
    (try rw [show ((0 : Int)).toNat = 0 from rfl] at hw223_0)
    (try rw [show 0 * 1 = 0 from rfl] at hw223_0)
    (try rw [Addr.add_zero'] at hw223_0)
    cases e223; have qi223 : (0 < l0_1.length) = True := eq_true (by omega)
    (try rw [show ((0 : Int)).toNat = 0 from rfl] at hx223_0)
    (try rw [Addr.add_zero'] at hx223_0)
    replace hx223_0 := (HB.out.cell (World.block_lt_of_cell? w _ hx223_0)).trans hx223_0; have HR223_0 := zaf.mk hi223_0; have HC223_0 := zaf.mk hl223_0; clear hi223_0 hl223_0; replace p223 := eq_true p223; replace q223 := eq_true q223; refine start_ (n := 16) (S := fun w' => w'.cell? ⟨gb217, 0, none⟩ = some (.slice (some ad222) l0_0.length c0_0) ∧ w'.cell? ⟨gb217, 1, none⟩ = some (.slice (some ad223) l0_1.length c0_1) ∧ w'.cell? ad222 = some (.slice A222_0 (rd_L2 l0_0 0).length c222_0) ∧ w'.cell? ad223 = some (.slice A223_0 (rd_L3 l0_1 0).length c223_0)) (ds := []) #[false, false, false, false, false, false, false, false, false, false, false, false, false, false, false, false] (by kernel_rfl) rfl rfl ⟨(zac BK217.out 0).trans rfl, (zac BK217.out 1).trans rfl, ((HB.out.cell (World.block_lt_of_cell? w _ hw222_0)).trans hw222_0), ((HB.out.cell (World.block_lt_of_cell? w _ hw223_0)).trans hw223_0)⟩ (fun hHeld => ?_); refine with_tabW table_Encode.tab4 table_Encode.bits4 (fun HT_ HW_ => ?_)
    generalize w9.drew = w11 at HO221 BK217 HB HR222_0 HR223_0 hx222_0 hx223_0 hHeld ⊢; refine pu_ (i := 0) (N := some 18) (v := ?_) (a' := ?_) rfl rfl (any_of HT_.out (by kernel_rfl)) (fun _ _ _ h => h) (Or.inl ⟨by rfl, ?_⟩) ?_ ?_
    rotate_left
    ·intro w'; go_simp
     with_reducible rfl
    rotate_left
    ·simp only [nm_]; rfl
    refine pu_ (i := 3) (N := some 21) (v := ?_) (a' := ?_) rfl rfl (any_of HT_.out (by kernel_rfl)) (fun _ _ _ h => h) (Or.inl ⟨by rfl, ?_⟩) ?_ ?_
    rotate_left
    ·intro w'; go_simp
     with_reducible rfl
    rotate_left
    ·simp only [nm_]; rfl
    refine pu_ (i := 8) (N := some 26) (v := ?_) (a' := ?_) rfl rfl (any_of HT_.out (by kernel_rfl)) (fun _ _ _ h => h) (Or.inl ⟨by rfl, ?_⟩) ?_ ?_
    rotate_left
    ·intro w'; go_simp
     with_reducible rfl
    rotate_left
    ·simp only [nm_]; rfl
    refine pu_ (i := 15) (N := some 33) (v := ?_) (a' := ?_) rfl rfl (any_of HT_.out (by kernel_rfl)) (fun _ _ _ h => h) (Or.inl ⟨by rfl, ?_⟩) ?_ ?_
    rotate_left
    ·intro w'; go_simp
     with_reducible rfl
    rotate_left
    ·simp only [nm_]; rfl
    refine tu_ (i := 1) (N := some 19) (v := ?_) (a' := ?_) rfl rfl (take_ofW HT_.out HW_.out (by kernel_rfl)) (fun _ _ _ h => h) (Or.inl ⟨by rfl, ?_⟩) hHeld ?_ ?_
    rotate_left
    ·rintro w' ⟨s0, s1, s2, s3⟩; go_simp
     with_reducible rfl
    rotate_left
    ·simp only [nm_]; rfl
    refine pu_ (i := 2) (N := some 20) (v := ?_) (a' := ?_) rfl rfl (any_of HT_.out (by kernel_rfl)) (fun _ _ _ h => h) (Or.inl ⟨by rfl, ?_⟩) ?_ ?_
    rotate_left
    ·intro w'; go_simp
     with_reducible rfl
    rotate_left
    ·simp only [nm_]; rfl
    refine tu_ (i := 4) (N := some 22) (v := ?_) (a' := ?_) rfl rfl (take_ofW HT_.out HW_.out (by kernel_rfl)) (fun _ _ _ h => h) (Or.inl ⟨by rfl, ?_⟩) hHeld ?_ ?_
    rotate_left
    ·rintro w' ⟨s0, s1, s2, s3⟩; go_simp
     with_reducible rfl
    rotate_left
    ·simp only [nm_]; rfl
    refine pu_ (i := 5) (N := some 23) (v := ?_) (a' := ?_) rfl rfl (any_of HT_.out (by kernel_rfl)) (fun _ _ _ h => h) (Or.inl ⟨by rfl, ?_⟩) ?_ ?_
    rotate_left
    ·intro w'; go_simp
     with_reducible rfl
    rotate_left
    ·simp only [nm_]; rfl
    refine tu_ (i := 6) (N := some 24) (v := ?_) (a' := ?_) rfl rfl (take_ofW HT_.out HW_.out (by kernel_rfl)) (fun _ _ _ h => h) (Or.inl ⟨by rfl, ?_⟩) hHeld ?_ ?_
    rotate_left
    ·rintro w' ⟨s0, s1, s2, s3⟩; go_simp
     with_reducible rfl
    rotate_left
    ·simp only [nm_]; rfl
    refine pu_ (i := 7) (N := some 25) (v := ?_) (a' := ?_) rfl rfl (any_of HT_.out (by kernel_rfl)) (fun _ _ _ h => h) (Or.inl ⟨by rfl, ?_⟩) ?_ ?_
    rotate_left
    ·intro w'; go_simp
     with_reducible rfl
    rotate_left
    ·simp only [nm_]; rfl
    refine tu_ (i := 9) (N := some 27) (v := ?_) (a' := ?_) rfl rfl (take_ofW HT_.out HW_.out (by kernel_rfl)) (fun _ _ _ h => h) (Or.inl ⟨by rfl, ?_⟩) hHeld ?_ ?_
    rotate_left
    ·rintro w' ⟨s0, s1, s2, s3⟩; go_simp
     with_reducible rfl
    rotate_left
    ·simp only [nm_]; rfl
    refine pu_ (i := 10) (N := some 28) (v := ?_) (a' := ?_) rfl rfl (any_of HT_.out (by kernel_rfl)) (fun _ _ _ h => h) (Or.inl ⟨by rfl, ?_⟩) ?_ ?_
    rotate_left
    ·intro w'; go_simp
     with_reducible rfl
    rotate_left
    ·simp only [nm_]; rfl
    refine tu_ (i := 11) (N := some 29) (v := ?_) (a' := ?_) rfl rfl (take_ofW HT_.out HW_.out (by kernel_rfl)) (fun _ _ _ h => h) (Or.inl ⟨by rfl, ?_⟩) hHeld ?_ ?_
    rotate_left
    ·rintro w' ⟨s0, s1, s2, s3⟩; go_simp
     with_reducible rfl
    rotate_left
    ·simp only [nm_]; rfl
    refine pu_ (i := 12) (N := some 30) (v := ?_) (a' := ?_) rfl rfl (any_of HT_.out (by kernel_rfl)) (fun _ _ _ h => h) (Or.inl ⟨by rfl, ?_⟩) ?_ ?_
    rotate_left
    ·intro w'; go_simp
     with_reducible rfl
    rotate_left
    ·simp only [nm_]; rfl
    refine ou_ (i := 13) (N := some 31) rfl rfl (one_of HT_.out (by kernel_rfl)) (by decide) (fun K hK => ?_)
    refine Kd.R_lit_step (Kd.int .i64) _ 3 ?hg (N := 31) ?hd (xs := ([(l0_0.length : Int), ((rd_L2 l0_0 0).length : Int), ((rd_L3 l0_1 0).length : Int)] : List Int)) (inner := [.int .i64 (l0_0.length : Int), .int .i64 ((rd_L2 l0_0 0).length : Int), .int .i64 ((rd_L3 l0_1 0).length : Int)]) (ok := fun _ => True) (okp := fun _ => True) ?hr ?hp (fun _ hk => hk) trivial (Below.refl _ _) (Nat.le_refl _) (by simp) ?_; (case hd => rfl); (case hg => rfl); (case hr => first | (go_simp; done) | (go_simp; rfl)); (case hp => exact (Reps.one (show Kd.M (Kd.int .i64) _ _ _ (l0_0.length : Int) [.int .i64 (l0_0.length : Int)] from rfl) (Reps.one (show Kd.M (Kd.int .i64) _ _ _ ((rd_L2 l0_0 0).length : Int) [.int .i64 ((rd_L2 l0_0 0).length : Int)] from rfl) (Reps.one (show Kd.M (Kd.int .i64) _ _ _ ((rd_L3 l0_1 0).length : Int) [.int .i64 ((rd_L3 l0_1 0).length : Int)] from rfl) (Reps.none _ _)))))
    intro v225 w12 ho13 hb hg_ hnew_; clear hg_ hnew_
    (first | rw [← Ny224.out] at ho13 | (simp only [Int.reduceToNat] at ho13; rw [← Ny224.out] at ho13))
    have n0_ := zaf.mk (Kd.zbi (by (with_reducible repeat (first | apply Kd.zba | apply Kd.zbc | apply Kd.zbk)); exact HO221.out) hb)
    have n1_ := zaf.mk (Kd.R_lower ho13 (zan (by repeat (first | (with_reducible first | exact HB.out | apply zab | apply zaa | apply zah | refine zae ?_ GE217.out) | exact HB.out))))
    have n2_ := zaf.mk (zal (g := gb217) (o := .cells #[.slice (some ad222) l0_0.length c0_0, .slice (some ad223) l0_1.length c0_1] 25 (0, 0)) (by (with_reducible repeat (first | apply zai | apply zaj | apply zad)); exact BK217.out) hb)
    have n3_ := zaf.mk (zam (by repeat (first | (with_reducible first | exact HB.out | apply zab | apply zaa | apply zah | refine zae ?_ GE217.out) | exact HB.out)) hb)
    clear HO221; clear BK217; clear HB; have HO221 := n0_; have HO226 := n1_; have BK217 := n2_; have HB := n3_; clear n0_ n1_ n2_ n3_; clear hb ho13; obtain ⟨Ao14, co14, eo14⟩ := Kd.R_slice HO226.out
    (first | subst eo14 | (injection eo14 with f1_ f2_ f3_; have f4_ := f1_.symm; have f5_ := f3_.symm; clear f1_ f2_ f3_; subst f4_; subst f5_))
    refine hK.out _ _ ⟨(zac BK217.out 0).trans rfl, (zac BK217.out 1).trans rfl, ((HB.out.cell (World.block_lt_of_cell? w _ hw222_0)).trans hw222_0), ((HB.out.cell (World.block_lt_of_cell? w _ hw223_0)).trans hw223_0)⟩ (fun hHeld => ?_)
    clear hK K; refine norm_ (a' := ?_) ?_ ?_; rotate_left
    ·show Act.put _ (some 31) _ = _; simp only [nm_]; rfl
    refine pu_ (i := 14) (N := some 32) (v := ?_) (a' := ?_) rfl rfl (any_of HT_.out (by kernel_rfl)) (fun _ _ _ h => h) (Or.inl ⟨by rfl, ?_⟩) ?_ ?_
    rotate_left
    ·intro w'; go_simp
     with_reducible rfl
    rotate_left
    ·simp only [nm_]; rfl
    refine done_ (done_of HT_.out (by kernel_rfl)) ?_
    try go_wp2
    go_loopg [3, 33] k (fun kq v3 v33 w' => ∃ (x3_1 : List Int) (x33_1 : Int), v33 = .int .i64 x33_1 ∧ zaf (table_Encode.l0 kq x3_1 y224 (y224.length : Int) x33_1 l0_0 l0_1 = some r) ∧ zaf (kq ≤ k) ∧ zaf (Kd.R (Kd.int .u8) 5 w' w.heap.size (fun _ => True) v3 x3_1) ∧ zaf (Kd.R (Kd.int .i64) 3 w' w.heap.size (fun _ => True) (.slice Ao14 y224.length co14) y224) ∧ zaf (w'.heap[gb217]? = some (.cells #[(.slice (some ad222) l0_0.length c0_0), (.slice (some ad223) l0_1.length c0_1)] 25 (0, 0))) ∧ zaf (Below w.heap.size w w'))
    case atStart => exact ⟨(y219), (0), (by first | rfl | (simp; done) | (simp [*]; done)), H', ⟨Nat.le_refl _⟩, ⟨by (with_reducible repeat (first | apply Kd.zba | apply Kd.zbc | apply Kd.zbk)); exact HO221.out⟩, ⟨by (with_reducible repeat (first | apply Kd.zba | apply Kd.zbc | apply Kd.zbk)); exact HO226.out⟩, ⟨by (with_reducible repeat (first | apply zai | apply zaj | apply zad)); exact BK217.out⟩, ⟨by repeat (first | (with_reducible first | exact HB.out | apply zab | apply zaa | apply zah | refine zae ?_ GE217.out) | exact HB.out)⟩⟩
    case round =>
     clear H'
     try clear c2
     try clear p2
     try clear q2
     try clear hx2
     try clear qi2
     try clear c3
     try clear c4
     try clear c4b0
     try clear c4b1
     try clear c5
     try clear c5b0
     try clear c5b1
     try clear hcz7_0
     try clear hcz7_1
     try clear hfz7_0
     try clear hfz7_1
     try clear hx222_0
     try clear hx223_0
     try clear p222
     try clear p223
     try clear q222
     try clear q223
     obtain ⟨x3_1, x33_1, rfl, HA, HK1, HO_3, HO_31, BK217, HB⟩ := hrel; cases gk with
     | zero => exact absurd HA.out (by simp [table_Encode.l0])
     | succ k1 =>
      have H := HA.out; clear HA; simp only [table_Encode.l0] at H; by_cases c15 : x33_1 < (y224.length : Int)
      ·rw [if_pos c15] at H; have c15b0 : decide (x33_1 < (y224.length : Int)) = true := decide_eq_true c15; clear c15; by_cases c16 : 0 ≤ x33_1
       ·rw [if_pos c16] at H; have c16b0 : decide (0 ≤ x33_1) = true := decide_eq_true c16; clear c16; by_cases c17 : x33_1 < (y224.length : Int)
        ·rw [if_pos c17] at H; have c17b0 : decide (x33_1 < (y224.length : Int)) = true := decide_eq_true c17; clear c17; replace H := Option.bind_eq_some_iff.mp H; obtain ⟨t228, A180, H⟩ := H; replace H : (table_Encode.l0 k1 t228 y224 (y224.length : Int) (wrap64 (x33_1 + 1)) l0_0 l0_1) = some r := H; have A18 := zaf.mk A180; clear A180; have H' := zaf.mk H; clear H; have p227 : 0 ≤ (x33_1 : Int) := of_decide_eq_true (by first | (with_reducible assumption) | assumption)
         have q227 : x33_1 < (y224.length : Int) := of_decide_eq_true (by first | (with_reducible assumption) | assumption)
         obtain ⟨ad227, e227, hx227_0⟩ := Kd.at_int (Kd.zbo HO_31.out).2.2 x33_1 p227 q227; cases e227; replace p227 := eq_true p227; replace q227 := eq_true q227; obtain ⟨Ao19, co19, eo19⟩ := Kd.R_slice HO_3.out; subst eo19
         go_wp2_with (first | ((with_reducible refine gate_callee (f := 47) rfl ?_); refine goesL_ (some 39) rfl rfl Tryd.func47 (by kernel_rfl) rfl #[.slice Ao19 x3_1.length co19, .int .i64 (rd y224 x33_1)] rfl (by (try simp only [List.map_toArray, List.map_cons, List.map_nil]); first | done | rfl | (simp only [List.length_drop, List.length_take]; rfl)) ?_; (with_reducible refine (table_count.calls k1 (fun k_ => some k_ = (.slice Ao19 x3_1.length co19 : Value).ownBlock) (.slice Ao19 x3_1.length co19) x3_1 (rd y224 x33_1) t228 w _ ?side1 ?side2 A18.out).mono ?_); (case side1 => repeat (first | (with_reducible first | exact HB.out | apply zab | apply zaa | apply zah | refine zae ?_ GE217.out) | exact HB.out)); (case side2 => exact Kd.R_tight rfl HO_3.out); rintro e w20 ⟨v229, rfl, ho0, hb, hkp⟩; refine ⟨_, rfl, ?_⟩; have n0_ := zaf.mk (Kd.zbg (ok' := fun k_ => True) (Kd.R_keptB ((Kd.R_apart' HO_31.out (Kd.R_typed HO_3.out) (by decide))) hkp (fun k_ hk_ hs_ => (hk_.2) hs_)) (fun k_ hk_ => trivial)); have n1_ := zaf.mk (blk_kept (by (with_reducible repeat (first | apply zai | apply zaj | apply zad)); exact BK217.out) hkp (fun hs_ => (fun e_ => (Kd.R_ne HO_3.out BK217.out (by decide)) e_) hs_)); have n2_ := zaf.mk (Kd.zbg (ok' := fun k_ => True) ho0 (fun k_ hk_ => trivial)); have n3_ := zaf.mk (hb); clear HO_31; clear BK217; clear HB; clear HO_3; have HO_31 := n0_; have BK217 := n1_; have HO230 := n2_; have HB := n3_; clear n0_ n1_ n2_ n3_; (try clear hb); (try clear hkp); (try clear ho0)))
         go_roundg k1
         case measure => have := HK1.out; omega
         case rel => exact ⟨(t228), (wrap64 (x33_1 + 1)), (by first | rfl | (simp; done) | (simp [*]; done)), H', ⟨by have := HK1.out; omega⟩, ⟨by (with_reducible repeat (first | apply Kd.zba | apply Kd.zbc | apply Kd.zbk)); exact HO230.out⟩, ⟨by (with_reducible repeat (first | apply Kd.zba | apply Kd.zbc | apply Kd.zbk)); exact HO_31.out⟩, ⟨by (with_reducible repeat (first | apply zai | apply zaj | apply zad)); exact BK217.out⟩, ⟨by repeat (first | (with_reducible first | exact HB.out | apply zab | apply zaa | apply zah | refine zae ?_ GE217.out) | exact HB.out)⟩⟩
        ·rw [if_neg c17] at H; exact absurd H (by simp)
       ·rw [if_neg c16] at H; exact absurd H (by simp)
      ·rw [if_neg c15] at H; have c15b0 : decide (x33_1 < (y224.length : Int)) = false := decide_eq_false c15; clear c15; have H' := zaf.mk H; clear H; have hcz21_0 : wr.cell? ⟨gb217, 0, none⟩ = some (.slice (some ad222) l0_0.length c0_0) := (zac BK217.out 0).trans rfl; have hcz21_1 : wr.cell? ⟨gb217, 1, none⟩ = some (.slice (some ad223) l0_1.length c0_1) := (zac BK217.out 1).trans rfl; have hfz21_0 := zak BK217.out 0; have hfz21_1 := zak BK217.out 1; go_wp2
       go_loopg [3, 44] k1 (fun kq v3 v44 w' => ∃ (x3_2 : List Int) (x44_2 : Int), v44 = .int .i64 x44_2 ∧ zaf (table_Encode.l1 kq x3_2 l0_0 (l0_0.length : Int) x44_2 l0_0 l0_1 = some r) ∧ zaf (kq ≤ k1) ∧ zaf (Kd.R (Kd.int .u8) 5 w' w.heap.size (fun _ => True) v3 x3_2) ∧ zaf (w'.heap[gb217]? = some (.cells #[(.slice (some ad222) l0_0.length c0_0), (.slice (some ad223) l0_1.length c0_1)] 25 (0, 0))) ∧ zaf (Below w.heap.size w w'))
       case atStart => exact ⟨(x3_1), (0), (by first | rfl | (simp; done) | (simp [*]; done)), H', ⟨Nat.le_refl _⟩, ⟨by (with_reducible repeat (first | apply Kd.zba | apply Kd.zbc | apply Kd.zbk)); exact HO_3.out⟩, ⟨by (with_reducible repeat (first | apply zai | apply zaj | apply zad)); exact BK217.out⟩, ⟨by repeat (first | (with_reducible first | exact HB.out | apply zab | apply zaa | apply zah | refine zae ?_ GE217.out) | exact HB.out)⟩⟩
       case round =>
        clear H'
        try clear c1
        try clear c2
        try clear p2
        try clear q2
        try clear hx2
        try clear qi2
        try clear c3
        try clear c4
        try clear c4b0
        try clear c4b1
        try clear c5
        try clear c5b0
        try clear c5b1
        try clear p6
        try clear c15
        try clear c15b0
        try clear c16
        try clear c16b0
        try clear c17
        try clear c17b0
        try clear hcz21_0
        try clear hcz21_1
        try clear hcz7_0
        try clear hcz7_1
        try clear hfz21_0
        try clear hfz21_1
        try clear hfz7_0
        try clear hfz7_1
        try clear hx222_0
        try clear hx223_0
        try clear hx227_0
        try clear p2
        try clear p222
        try clear p223
        try clear p227
        try clear q2
        try clear q222
        try clear q223
        try clear q227
        obtain ⟨x3_2, x44_2, rfl, HA, HK2, HO_3, BK217, HB⟩ := hrel; cases gk with
        | zero => exact absurd HA.out (by simp [table_Encode.l1])
        | succ k2 =>
         have H := HA.out; clear HA; simp only [table_Encode.l1] at H; by_cases c22 : x44_2 < (l0_0.length : Int)
         ·rw [if_pos c22] at H; have c22b0 : decide (x44_2 < (l0_0.length : Int)) = true := decide_eq_true c22; clear c22; by_cases c23 : 0 ≤ x44_2
          ·rw [if_pos c23] at H; have c23b0 : decide (0 ≤ x44_2) = true := decide_eq_true c23; clear c23; by_cases c24 : x44_2 < (l0_0.length : Int)
           ·rw [if_pos c24] at H; have c24b0 : decide (x44_2 < (l0_0.length : Int)) = true := decide_eq_true c24; clear c24; have H' := zaf.mk H; clear H; have p231 : 0 ≤ (x44_2 : Int) := of_decide_eq_true (by first | (with_reducible assumption) | assumption)
            have q231 : x44_2 < (l0_0.length : Int) := of_decide_eq_true (by first | (with_reducible assumption) | assumption)
            obtain ⟨ad231, A231_0, c231_0, e231, hx231_0, hl231_0, hi231_0⟩ := at_L2 HR0_0.out x44_2 p231 q231; obtain rfl : ad222 = ad231 := (by injection e231)
            replace hx231_0 := (HB.out.cell (World.block_lt_of_cell? w _ hx231_0)).trans hx231_0; have HR231_0 := zaf.mk hi231_0; have HC231_0 := zaf.mk hl231_0; clear hi231_0 hl231_0; replace p231 := eq_true p231; replace q231 := eq_true q231; go_wp2
            go_loopg [3, 50] k2 (fun kq v3 v50 w' => ∃ (x3_3 : List Int) (x50_3 : Int), v50 = .int .i64 x50_3 ∧ zaf (table_Encode.l2 kq x3_3 l0_0 (l0_0.length : Int) x44_2 (rd_L2 l0_0 x44_2) ((rd_L2 l0_0 x44_2).length : Int) x50_3 l0_0 l0_1 = some r) ∧ zaf (kq ≤ k2) ∧ zaf (Kd.R (Kd.int .u8) 5 w' w.heap.size (fun _ => True) v3 x3_3) ∧ zaf (w'.heap[gb217]? = some (.cells #[(.slice (some ad222) l0_0.length c0_0), (.slice (some ad223) l0_1.length c0_1)] 25 (0, 0))) ∧ zaf (Below w.heap.size w w'))
            case atStart => exact ⟨(x3_2), (0), (by first | rfl | (simp; done) | (simp [*]; done)), H', ⟨Nat.le_refl _⟩, ⟨by (with_reducible repeat (first | apply Kd.zba | apply Kd.zbc | apply Kd.zbk)); exact HO_3.out⟩, ⟨by (with_reducible repeat (first | apply zai | apply zaj | apply zad)); exact BK217.out⟩, ⟨by repeat (first | (with_reducible first | exact HB.out | apply zab | apply zaa | apply zah | refine zae ?_ GE217.out) | exact HB.out)⟩⟩
            case round =>
             clear H'
             try clear c1
             try clear c2
             try clear p2
             try clear q2
             try clear hx2
             try clear qi2
             try clear c3
             try clear c4
             try clear c4b0
             try clear c4b1
             try clear c5
             try clear c5b0
             try clear c5b1
             try clear p6
             try clear c15
             try clear c15b0
             try clear c16
             try clear c16b0
             try clear c17
             try clear c17b0
             try clear c22
             try clear c22b0
             try clear p22
             try clear q22
             try clear hx22
             try clear qi22
             try clear c23
             try clear c23b0
             try clear p23
             try clear q23
             try clear hx23
             try clear c24
             try clear c24b0
             try clear hcz21_0
             try clear hcz21_1
             try clear hcz7_0
             try clear hcz7_1
             try clear hfz21_0
             try clear hfz21_1
             try clear hfz7_0
             try clear hfz7_1
             try clear hx222_0
             try clear hx223_0
             try clear hx227_0
             try clear hx231_0
             try clear p2
             try clear p222
             try clear p223
             try clear p227
             try clear p231
             try clear p6
             try clear q2
             try clear q222
             try clear q223
             try clear q227
             try clear q231
             obtain ⟨x3_3, x50_3, rfl, HA, HK3, HO_3, BK217, HB⟩ := hrel; cases gk with
             | zero => exact absurd HA.out (by simp [table_Encode.l2])
             | succ k3 =>
              have H := HA.out; clear HA; simp only [table_Encode.l2] at H; by_cases c25 : x50_3 < ((rd_L2 l0_0 x44_2).length : Int)
              ·rw [if_pos c25] at H; have c25b0 : decide (x50_3 < ((rd_L2 l0_0 x44_2).length : Int)) = true := decide_eq_true c25; clear c25; by_cases c26 : 0 ≤ x50_3
               ·rw [if_pos c26] at H; have c26b0 : decide (0 ≤ x50_3) = true := decide_eq_true c26; clear c26; by_cases c27 : x50_3 < ((rd_L2 l0_0 x44_2).length : Int)
                ·rw [if_pos c27] at H; have c27b0 : decide (x50_3 < ((rd_L2 l0_0 x44_2).length : Int)) = true := decide_eq_true c27; clear c27; by_cases c28 : ((rd_T93 (rd_L2 l0_0 x44_2) x50_3).f0) = 0
                 ·rw [if_pos c28] at H; have c28b0 : (((rd_T93 (rd_L2 l0_0 x44_2) x50_3).f0) == 0) = true := beq_iff_eq.mpr c28; have c28b1 : (((rd_T93 (rd_L2 l0_0 x44_2) x50_3).f0) != 0) = false := bne_eq_false_iff_eq.mpr c28; clear c28; replace H := Option.bind_eq_some_iff.mp H; obtain ⟨t234, A290, H⟩ := H; replace H : (table_Encode.l2 k3 t234 l0_0 (l0_0.length : Int) x44_2 (rd_L2 l0_0 x44_2) ((rd_L2 l0_0 x44_2).length : Int) (wrap64 (x50_3 + 1)) l0_0 l0_1) = some r := H; have A29 := zaf.mk A290; clear A290; have H' := zaf.mk H; clear H; have p232 : 0 ≤ (x50_3 : Int) := of_decide_eq_true (by first | (with_reducible assumption) | assumption)
                  have q232 : x50_3 < ((rd_L2 l0_0 x44_2).length : Int) := of_decide_eq_true (by first | (with_reducible assumption) | assumption)
                  obtain ⟨ad232, e232, hx232_0, hx232_1⟩ := at_T93 HR231_0.out x50_3 p232 q232; cases e232; replace hx232_0 := (HB.out.cell (World.block_lt_of_cell? w _ hx232_0)).trans hx232_0; replace hx232_1 := (HB.out.cell (World.block_lt_of_cell? w _ hx232_1)).trans hx232_1; replace p232 := eq_true p232; replace q232 := eq_true q232
                  go_wp2_with (first | ((with_reducible refine zbb (N := 9) rfl ?_); refine zaz ?hg (N := 9) ?hd (cs := #[.int .i64 0, .int .i64 0]) (t := 93) ?hr ?_; (case hd => rfl); (case hg => rfl); (case hr => first | (go_simp; done) | (go_simp; rfl)); intro gb233 hg w30 hbox hb; have n0_ := zaf.mk (Kd.zbi (by (with_reducible repeat (first | apply Kd.zba | apply Kd.zbc | apply Kd.zbk)); exact HO_3.out) hb); have n1_ := zaf.mk (zal (g := gb217) (o := .cells #[.slice (some ad222) l0_0.length c0_0, .slice (some ad223) l0_1.length c0_1] 25 (0, 0)) (by (with_reducible repeat (first | apply zai | apply zaj | apply zad)); exact BK217.out) hb); have n2_ := zaf.mk (zam (by repeat (first | (with_reducible first | exact HB.out | apply zab | apply zaa | apply zah | refine zae ?_ GE217.out) | exact HB.out)) hb); have n3_ := zaf.mk (hbox); have n4_ := zaf.mk ((by rw [hg]; exact (zan (by repeat (first | (with_reducible first | exact HB.out | apply zab | apply zaa | apply zah | refine zae ?_ GE217.out) | exact HB.out))) : w.heap.size ≤ gb233)); have n5_ := zaf.mk ((by rw [hg]; exact (zan (by repeat (first | (with_reducible first | exact HB.out | apply zab | apply zaa | apply zah | refine zae ?_ GE217.out) | exact HB.out))) : w.heap.size ≤ gb233)); have n6_ := zaf.mk ((by rw [hg]; exact Nat.ne_of_lt (zau (g := gb217) (o := .cells #[.slice (some ad222) l0_0.length c0_0, .slice (some ad223) l0_1.length c0_1] 25 (0, 0)) (by (with_reducible repeat (first | apply zai | apply zaj | apply zad)); exact BK217.out)) : gb217 ≠ gb233)); have n7_ := zaf.mk ((by rw [hg]; exact Nat.ne_of_gt (zau (g := gb217) (o := .cells #[.slice (some ad222) l0_0.length c0_0, .slice (some ad223) l0_1.length c0_1] 25 (0, 0)) (by (with_reducible repeat (first | apply zai | apply zaj | apply zad)); exact BK217.out)) : gb233 ≠ gb217)); clear HO_3; clear BK217; clear HB; have HO_3 := n0_; have BK217 := n1_; have HB := n2_; have BK233 := n3_; have GW233 := n4_; have GE233 := n5_; have NB217_233 := n6_; have NB233_217 := n7_; clear n0_ n1_ n2_ n3_ n4_ n5_ n6_ n7_; clear hb hbox hg; have hnb31 := NB233_217.out; have hnc31 := NB217_233.out; have hcz32_0 : w30.cell? ⟨gb233, 0, none⟩ = some (.int .i64 0) := (zac BK233.out 0).trans rfl; have hcz32_1 : w30.cell? ⟨gb233, 1, none⟩ = some (.int .i64 0) := (zac BK233.out 1).trans rfl; have hfz32_0 := zak BK233.out 0; have hfz32_1 := zak BK233.out 1) | ((with_reducible refine gate_store (t := 93) (p := 9) rfl ?_); refine store_event (t := 93) (p := 9) (v := ?vo_w33) (w1 := ((w30.setCell ⟨gb233, 0, none⟩ (.int .i64 ((rd_T93 (rd_L2 l0_0 x44_2) x50_3).f0))).setCell ⟨gb233, 1, none⟩ (.int .i64 ((rd_T93 (rd_L2 l0_0 x44_2) x50_3).f1)))) ?hg ?ho ?hn ?hr ?_; (case ho => rfl); (case hg => rfl); (case hn => rfl); (case hr => first | (go_simp; done) | (go_simp; rfl)); intro w33 hw; have n0_ : zaf (Kd.R (Kd.int .u8) 5 w33 w.heap.size (fun _ => True) u3 x3_3) := ⟨(by rw [hw]; exact (by (with_reducible repeat (first | apply Kd.zba | apply Kd.zbc | apply Kd.zbk)); exact Kd.zbg (Kd.R_far (p := ⟨gb233, 1, none⟩) (Kd.R_far (p := ⟨gb233, 0, none⟩) (Kd.R_types HO_3.out BK233.out (by decide)) (fun _ hk => hk.2) (.int .i64 ((rd_T93 (rd_L2 l0_0 x44_2) x50_3).f0))) (fun _ hk => hk.2) (.int .i64 ((rd_T93 (rd_L2 l0_0 x44_2) x50_3).f1))) (fun _ hk => trivial)))⟩; have n1_ : zaf (w33.heap[gb217]? = some (.cells #[.slice (some ad222) l0_0.length c0_0, .slice (some ad223) l0_1.length c0_1] 25 (0, 0))) := ⟨(by rw [hw]; exact (by (with_reducible repeat (first | apply zai | apply zaj | apply zad)); refine zaq ?_ NB217_233.out _; (with_reducible repeat (first | apply zai | apply zaj | apply zad)); refine zaq ?_ NB217_233.out _; (with_reducible repeat (first | apply zai | apply zaj | apply zad)); exact BK217.out))⟩; have n2_ : zaf (w33.heap[gb233]? = some (.cells #[.int .i64 ((rd_T93 (rd_L2 l0_0 x44_2) x50_3).f0), .int .i64 ((rd_T93 (rd_L2 l0_0 x44_2) x50_3).f1)] 93 (0, 0))) := ⟨(by rw [hw]; exact (by (with_reducible repeat (first | apply zai | apply zaj | apply zad)); refine zar (cs := #[.int .i64 ((rd_T93 (rd_L2 l0_0 x44_2) x50_3).f0), .int .i64 0]) ?_ 1 _ rfl; (with_reducible repeat (first | apply zai | apply zaj | apply zad)); refine zar (cs := #[.int .i64 0, .int .i64 0]) ?_ 0 _ rfl; (with_reducible repeat (first | apply zai | apply zaj | apply zad)); exact BK233.out))⟩; have n3_ : zaf (Below w.heap.size w w33) := ⟨(by rw [hw]; exact (by repeat (first | (with_reducible first | exact HB.out | apply zab | apply zaa | apply zah | refine zae ?_ GE217.out | refine zae ?_ GE233.out) | exact HB.out)))⟩; clear hw; clear HO_3; clear BK217; clear BK233; clear HB; have HO_3 := n0_; have BK217 := n1_; have BK233 := n2_; have HB := n3_; clear n0_ n1_ n2_ n3_; have hcz34_0 : w33.cell? ⟨gb233, 0, none⟩ = some (.int .i64 ((rd_T93 (rd_L2 l0_0 x44_2) x50_3).f0)) := (zac BK233.out 0).trans rfl; have hcz34_1 : w33.cell? ⟨gb233, 1, none⟩ = some (.int .i64 ((rd_T93 (rd_L2 l0_0 x44_2) x50_3).f1)) := (zac BK233.out 1).trans rfl; have hfz34_0 := zak BK233.out 0; have hfz34_1 := zak BK233.out 1; obtain ⟨Ao35, co35, eo35⟩ := Kd.R_slice HO_3.out; subst eo35) | ((with_reducible refine gate_callee (f := 47) rfl ?_); refine goesL_ (some 59) rfl rfl Tryd.func47 (by kernel_rfl) rfl #[.slice Ao35 x3_3.length co35, .int .i64 0] rfl (by (try simp only [List.map_toArray, List.map_cons, List.map_nil]); first | done | rfl | (simp only [List.length_drop, List.length_take]; rfl)) ?_; (with_reducible refine (table_count.calls k3 (fun k_ => some k_ = (.slice Ao35 x3_3.length co35 : Value).ownBlock) (.slice Ao35 x3_3.length co35) x3_3 0 t234 w _ ?side1 ?side2 A29.out).mono ?_); (case side1 => repeat (first | (with_reducible first | exact HB.out | apply zab | apply zaa | apply zah | refine zae ?_ GE217.out | refine zae ?_ GE233.out) | exact HB.out)); (case side2 => exact Kd.R_tight rfl HO_3.out); rintro e w36 ⟨v235, rfl, ho0, hb, hkp⟩; refine ⟨_, rfl, ?_⟩; have n0_ := zaf.mk (blk_kept (by (with_reducible repeat (first | apply zai | apply zaj | apply zad)); exact BK217.out) hkp (fun hs_ => (fun e_ => (Kd.R_ne HO_3.out BK217.out (by decide)) e_) hs_)); have n1_ := zaf.mk (blk_kept (by (with_reducible repeat (first | apply zai | apply zaj | apply zad)); exact BK233.out) hkp (fun hs_ => (fun e_ => (Kd.R_ne HO_3.out BK233.out (by decide)) e_) hs_)); have n2_ := zaf.mk (Kd.zbg (ok' := fun k_ => True) ho0 (fun k_ hk_ => trivial)); have n3_ := zaf.mk (hb); clear BK217; clear BK233; clear HB; clear HO_3; have BK217 := n0_; have BK233 := n1_; have HO236 := n2_; have HB := n3_; clear n0_ n1_ n2_ n3_; (try clear hb); (try clear hkp); (try clear ho0)))
                  go_roundg k3
                  case measure => have := HK1.out; have := HK2.out; have := HK3.out; omega
                  case rel => exact ⟨(t234), (wrap64 (x50_3 + 1)), (by first | rfl | (simp; done) | (simp [*]; done)), H', ⟨by have := HK1.out; have := HK2.out; have := HK3.out; omega⟩, ⟨by (with_reducible repeat (first | apply Kd.zba | apply Kd.zbc | apply Kd.zbk)); exact HO236.out⟩, ⟨by (with_reducible repeat (first | apply zai | apply zaj | apply zad)); exact BK217.out⟩, ⟨by repeat (first | (with_reducible first | exact HB.out | apply zab | apply zaa | apply zah | refine zae ?_ GE217.out | refine zae ?_ GE233.out) | exact HB.out)⟩⟩
                 ·rw [if_neg c28] at H; have c28b0 : (((rd_T93 (rd_L2 l0_0 x44_2) x50_3).f0) == 0) = false := beq_eq_false_iff_ne.mpr c28; have c28b1 : (((rd_T93 (rd_L2 l0_0 x44_2) x50_3).f0) != 0) = true := bne_iff_ne.mpr c28; by_cases c37 : ((rd_T93 (rd_L2 l0_0 x44_2) x50_3).f0) = 3
                  ·rw [if_pos c37] at H; have c37b0 : (((rd_T93 (rd_L2 l0_0 x44_2) x50_3).f0) == 3) = true := beq_iff_eq.mpr c37; have c37b1 : (((rd_T93 (rd_L2 l0_0 x44_2) x50_3).f0) != 3) = false := bne_eq_false_iff_eq.mpr c37; clear c37; replace H := Option.bind_eq_some_iff.mp H; obtain ⟨t237, A380, H⟩ := H; replace H : (table_Encode.l2 k3 t237 l0_0 (l0_0.length : Int) x44_2 (rd_L2 l0_0 x44_2) ((rd_L2 l0_0 x44_2).length : Int) (wrap64 (x50_3 + 1)) l0_0 l0_1) = some r := H; have A38 := zaf.mk A380; clear A380; have H' := zaf.mk H; clear H; have p232 : 0 ≤ (x50_3 : Int) := of_decide_eq_true (by first | (with_reducible assumption) | assumption)
                   have q232 : x50_3 < ((rd_L2 l0_0 x44_2).length : Int) := of_decide_eq_true (by first | (with_reducible assumption) | assumption)
                   obtain ⟨ad232, e232, hx232_0, hx232_1⟩ := at_T93 HR231_0.out x50_3 p232 q232; cases e232; replace hx232_0 := (HB.out.cell (World.block_lt_of_cell? w _ hx232_0)).trans hx232_0; replace hx232_1 := (HB.out.cell (World.block_lt_of_cell? w _ hx232_1)).trans hx232_1; replace p232 := eq_true p232; replace q232 := eq_true q232
                   go_wp2_with (first | ((with_reducible refine zbb (N := 9) rfl ?_); refine zaz ?hg (N := 9) ?hd (cs := #[.int .i64 0, .int .i64 0]) (t := 93) ?hr ?_; (case hd => rfl); (case hg => rfl); (case hr => first | (go_simp; done) | (go_simp; rfl)); intro gb233 hg w39 hbox hb; have n0_ := zaf.mk (Kd.zbi (by (with_reducible repeat (first | apply Kd.zba | apply Kd.zbc | apply Kd.zbk)); exact HO_3.out) hb); have n1_ := zaf.mk (zal (g := gb217) (o := .cells #[.slice (some ad222) l0_0.length c0_0, .slice (some ad223) l0_1.length c0_1] 25 (0, 0)) (by (with_reducible repeat (first | apply zai | apply zaj | apply zad)); exact BK217.out) hb); have n2_ := zaf.mk (zam (by repeat (first | (with_reducible first | exact HB.out | apply zab | apply zaa | apply zah | refine zae ?_ GE217.out) | exact HB.out)) hb); have n3_ := zaf.mk (hbox); have n4_ := zaf.mk ((by rw [hg]; exact (zan (by repeat (first | (with_reducible first | exact HB.out | apply zab | apply zaa | apply zah | refine zae ?_ GE217.out) | exact HB.out))) : w.heap.size ≤ gb233)); have n5_ := zaf.mk ((by rw [hg]; exact (zan (by repeat (first | (with_reducible first | exact HB.out | apply zab | apply zaa | apply zah | refine zae ?_ GE217.out) | exact HB.out))) : w.heap.size ≤ gb233)); have n6_ := zaf.mk ((by rw [hg]; exact Nat.ne_of_lt (zau (g := gb217) (o := .cells #[.slice (some ad222) l0_0.length c0_0, .slice (some ad223) l0_1.length c0_1] 25 (0, 0)) (by (with_reducible repeat (first | apply zai | apply zaj | apply zad)); exact BK217.out)) : gb217 ≠ gb233)); have n7_ := zaf.mk ((by rw [hg]; exact Nat.ne_of_gt (zau (g := gb217) (o := .cells #[.slice (some ad222) l0_0.length c0_0, .slice (some ad223) l0_1.length c0_1] 25 (0, 0)) (by (with_reducible repeat (first | apply zai | apply zaj | apply zad)); exact BK217.out)) : gb233 ≠ gb217)); clear HO_3; clear BK217; clear HB; have HO_3 := n0_; have BK217 := n1_; have HB := n2_; have BK233 := n3_; have GW233 := n4_; have GE233 := n5_; have NB217_233 := n6_; have NB233_217 := n7_; clear n0_ n1_ n2_ n3_ n4_ n5_ n6_ n7_; clear hb hbox hg; have hnb40 := NB233_217.out; have hnc40 := NB217_233.out; have hcz41_0 : w39.cell? ⟨gb233, 0, none⟩ = some (.int .i64 0) := (zac BK233.out 0).trans rfl; have hcz41_1 : w39.cell? ⟨gb233, 1, none⟩ = some (.int .i64 0) := (zac BK233.out 1).trans rfl; have hfz41_0 := zak BK233.out 0; have hfz41_1 := zak BK233.out 1) | ((with_reducible refine gate_store (t := 93) (p := 9) rfl ?_); refine store_event (t := 93) (p := 9) (v := ?vo_w42) (w1 := ((w39.setCell ⟨gb233, 0, none⟩ (.int .i64 ((rd_T93 (rd_L2 l0_0 x44_2) x50_3).f0))).setCell ⟨gb233, 1, none⟩ (.int .i64 ((rd_T93 (rd_L2 l0_0 x44_2) x50_3).f1)))) ?hg ?ho ?hn ?hr ?_; (case ho => rfl); (case hg => rfl); (case hn => rfl); (case hr => first | (go_simp; done) | (go_simp; rfl)); intro w42 hw; have n0_ : zaf (Kd.R (Kd.int .u8) 5 w42 w.heap.size (fun _ => True) u3 x3_3) := ⟨(by rw [hw]; exact (by (with_reducible repeat (first | apply Kd.zba | apply Kd.zbc | apply Kd.zbk)); exact Kd.zbg (Kd.R_far (p := ⟨gb233, 1, none⟩) (Kd.R_far (p := ⟨gb233, 0, none⟩) (Kd.R_types HO_3.out BK233.out (by decide)) (fun _ hk => hk.2) (.int .i64 ((rd_T93 (rd_L2 l0_0 x44_2) x50_3).f0))) (fun _ hk => hk.2) (.int .i64 ((rd_T93 (rd_L2 l0_0 x44_2) x50_3).f1))) (fun _ hk => trivial)))⟩; have n1_ : zaf (w42.heap[gb217]? = some (.cells #[.slice (some ad222) l0_0.length c0_0, .slice (some ad223) l0_1.length c0_1] 25 (0, 0))) := ⟨(by rw [hw]; exact (by (with_reducible repeat (first | apply zai | apply zaj | apply zad)); refine zaq ?_ NB217_233.out _; (with_reducible repeat (first | apply zai | apply zaj | apply zad)); refine zaq ?_ NB217_233.out _; (with_reducible repeat (first | apply zai | apply zaj | apply zad)); exact BK217.out))⟩; have n2_ : zaf (w42.heap[gb233]? = some (.cells #[.int .i64 ((rd_T93 (rd_L2 l0_0 x44_2) x50_3).f0), .int .i64 ((rd_T93 (rd_L2 l0_0 x44_2) x50_3).f1)] 93 (0, 0))) := ⟨(by rw [hw]; exact (by (with_reducible repeat (first | apply zai | apply zaj | apply zad)); refine zar (cs := #[.int .i64 ((rd_T93 (rd_L2 l0_0 x44_2) x50_3).f0), .int .i64 0]) ?_ 1 _ rfl; (with_reducible repeat (first | apply zai | apply zaj | apply zad)); refine zar (cs := #[.int .i64 0, .int .i64 0]) ?_ 0 _ rfl; (with_reducible repeat (first | apply zai | apply zaj | apply zad)); exact BK233.out))⟩; have n3_ : zaf (Below w.heap.size w w42) := ⟨(by rw [hw]; exact (by repeat (first | (with_reducible first | exact HB.out | apply zab | apply zaa | apply zah | refine zae ?_ GE217.out | refine zae ?_ GE233.out) | exact HB.out)))⟩; clear hw; clear HO_3; clear BK217; clear BK233; clear HB; have HO_3 := n0_; have BK217 := n1_; have BK233 := n2_; have HB := n3_; clear n0_ n1_ n2_ n3_; have hcz43_0 : w42.cell? ⟨gb233, 0, none⟩ = some (.int .i64 ((rd_T93 (rd_L2 l0_0 x44_2) x50_3).f0)) := (zac BK233.out 0).trans rfl; have hcz43_1 : w42.cell? ⟨gb233, 1, none⟩ = some (.int .i64 ((rd_T93 (rd_L2 l0_0 x44_2) x50_3).f1)) := (zac BK233.out 1).trans rfl; have hfz43_0 := zak BK233.out 0; have hfz43_1 := zak BK233.out 1; obtain ⟨Ao44, co44, eo44⟩ := Kd.R_slice HO_3.out; subst eo44) | ((with_reducible refine gate_callee (f := 47) rfl ?_); refine goesL_ (some 63) rfl rfl Tryd.func47 (by kernel_rfl) rfl #[.slice Ao44 x3_3.length co44, .int .i64 1] rfl (by (try simp only [List.map_toArray, List.map_cons, List.map_nil]); first | done | rfl | (simp only [List.length_drop, List.length_take]; rfl)) ?_; (with_reducible refine (table_count.calls k3 (fun k_ => some k_ = (.slice Ao44 x3_3.length co44 : Value).ownBlock) (.slice Ao44 x3_3.length co44) x3_3 1 t237 w _ ?side1 ?side2 A38.out).mono ?_); (case side1 => repeat (first | (with_reducible first | exact HB.out | apply zab | apply zaa | apply zah | refine zae ?_ GE217.out | refine zae ?_ GE233.out) | exact HB.out)); (case side2 => exact Kd.R_tight rfl HO_3.out); rintro e w45 ⟨v238, rfl, ho0, hb, hkp⟩; refine ⟨_, rfl, ?_⟩; have n0_ := zaf.mk (blk_kept (by (with_reducible repeat (first | apply zai | apply zaj | apply zad)); exact BK217.out) hkp (fun hs_ => (fun e_ => (Kd.R_ne HO_3.out BK217.out (by decide)) e_) hs_)); have n1_ := zaf.mk (blk_kept (by (with_reducible repeat (first | apply zai | apply zaj | apply zad)); exact BK233.out) hkp (fun hs_ => (fun e_ => (Kd.R_ne HO_3.out BK233.out (by decide)) e_) hs_)); have n2_ := zaf.mk (Kd.zbg (ok' := fun k_ => True) ho0 (fun k_ hk_ => trivial)); have n3_ := zaf.mk (hb); clear BK217; clear BK233; clear HB; clear HO_3; have BK217 := n0_; have BK233 := n1_; have HO239 := n2_; have HB := n3_; clear n0_ n1_ n2_ n3_; (try clear hb); (try clear hkp); (try clear ho0)))
                   go_roundg k3
                   case measure => have := HK1.out; have := HK2.out; have := HK3.out; omega
                   case rel => exact ⟨(t237), (wrap64 (x50_3 + 1)), (by first | rfl | (simp; done) | (simp [*]; done)), H', ⟨by have := HK1.out; have := HK2.out; have := HK3.out; omega⟩, ⟨by (with_reducible repeat (first | apply Kd.zba | apply Kd.zbc | apply Kd.zbk)); exact HO239.out⟩, ⟨by (with_reducible repeat (first | apply zai | apply zaj | apply zad)); exact BK217.out⟩, ⟨by repeat (first | (with_reducible first | exact HB.out | apply zab | apply zaa | apply zah | refine zae ?_ GE217.out | refine zae ?_ GE233.out) | exact HB.out)⟩⟩
                  ·rw [if_neg c37] at H; have c37b0 : (((rd_T93 (rd_L2 l0_0 x44_2) x50_3).f0) == 3) = false := beq_eq_false_iff_ne.mpr c37; have c37b1 : (((rd_T93 (rd_L2 l0_0 x44_2) x50_3).f0) != 3) = true := bne_iff_ne.mpr c37; by_cases c46 : ((rd_T93 (rd_L2 l0_0 x44_2) x50_3).f0) = 1
                   ·rw [if_pos c46] at H; have c46b0 : (((rd_T93 (rd_L2 l0_0 x44_2) x50_3).f0) == 1) = true := beq_iff_eq.mpr c46; have c46b1 : (((rd_T93 (rd_L2 l0_0 x44_2) x50_3).f0) != 1) = false := bne_eq_false_iff_eq.mpr c46; clear c46; replace H := Option.bind_eq_some_iff.mp H; obtain ⟨t240, A470, H⟩ := H; replace H : (table_Encode.l2 k3 t240 l0_0 (l0_0.length : Int) x44_2 (rd_L2 l0_0 x44_2) ((rd_L2 l0_0 x44_2).length : Int) (wrap64 (x50_3 + 1)) l0_0 l0_1) = some r := H; have A47 := zaf.mk A470; clear A470; have H' := zaf.mk H; clear H; have p232 : 0 ≤ (x50_3 : Int) := of_decide_eq_true (by first | (with_reducible assumption) | assumption)
                    have q232 : x50_3 < ((rd_L2 l0_0 x44_2).length : Int) := of_decide_eq_true (by first | (with_reducible assumption) | assumption)
                    obtain ⟨ad232, e232, hx232_0, hx232_1⟩ := at_T93 HR231_0.out x50_3 p232 q232; cases e232; replace hx232_0 := (HB.out.cell (World.block_lt_of_cell? w _ hx232_0)).trans hx232_0; replace hx232_1 := (HB.out.cell (World.block_lt_of_cell? w _ hx232_1)).trans hx232_1; replace p232 := eq_true p232; replace q232 := eq_true q232
                    go_wp2_with (first | ((with_reducible refine zbb (N := 9) rfl ?_); refine zaz ?hg (N := 9) ?hd (cs := #[.int .i64 0, .int .i64 0]) (t := 93) ?hr ?_; (case hd => rfl); (case hg => rfl); (case hr => first | (go_simp; done) | (go_simp; rfl)); intro gb233 hg w48 hbox hb; have n0_ := zaf.mk (Kd.zbi (by (with_reducible repeat (first | apply Kd.zba | apply Kd.zbc | apply Kd.zbk)); exact HO_3.out) hb); have n1_ := zaf.mk (zal (g := gb217) (o := .cells #[.slice (some ad222) l0_0.length c0_0, .slice (some ad223) l0_1.length c0_1] 25 (0, 0)) (by (with_reducible repeat (first | apply zai | apply zaj | apply zad)); exact BK217.out) hb); have n2_ := zaf.mk (zam (by repeat (first | (with_reducible first | exact HB.out | apply zab | apply zaa | apply zah | refine zae ?_ GE217.out) | exact HB.out)) hb); have n3_ := zaf.mk (hbox); have n4_ := zaf.mk ((by rw [hg]; exact (zan (by repeat (first | (with_reducible first | exact HB.out | apply zab | apply zaa | apply zah | refine zae ?_ GE217.out) | exact HB.out))) : w.heap.size ≤ gb233)); have n5_ := zaf.mk ((by rw [hg]; exact (zan (by repeat (first | (with_reducible first | exact HB.out | apply zab | apply zaa | apply zah | refine zae ?_ GE217.out) | exact HB.out))) : w.heap.size ≤ gb233)); have n6_ := zaf.mk ((by rw [hg]; exact Nat.ne_of_lt (zau (g := gb217) (o := .cells #[.slice (some ad222) l0_0.length c0_0, .slice (some ad223) l0_1.length c0_1] 25 (0, 0)) (by (with_reducible repeat (first | apply zai | apply zaj | apply zad)); exact BK217.out)) : gb217 ≠ gb233)); have n7_ := zaf.mk ((by rw [hg]; exact Nat.ne_of_gt (zau (g := gb217) (o := .cells #[.slice (some ad222) l0_0.length c0_0, .slice (some ad223) l0_1.length c0_1] 25 (0, 0)) (by (with_reducible repeat (first | apply zai | apply zaj | apply zad)); exact BK217.out)) : gb233 ≠ gb217)); clear HO_3; clear BK217; clear HB; have HO_3 := n0_; have BK217 := n1_; have HB := n2_; have BK233 := n3_; have GW233 := n4_; have GE233 := n5_; have NB217_233 := n6_; have NB233_217 := n7_; clear n0_ n1_ n2_ n3_ n4_ n5_ n6_ n7_; clear hb hbox hg; have hnb49 := NB233_217.out; have hnc49 := NB217_233.out; have hcz50_0 : w48.cell? ⟨gb233, 0, none⟩ = some (.int .i64 0) := (zac BK233.out 0).trans rfl; have hcz50_1 : w48.cell? ⟨gb233, 1, none⟩ = some (.int .i64 0) := (zac BK233.out 1).trans rfl; have hfz50_0 := zak BK233.out 0; have hfz50_1 := zak BK233.out 1) | ((with_reducible refine gate_store (t := 93) (p := 9) rfl ?_); refine store_event (t := 93) (p := 9) (v := ?vo_w51) (w1 := ((w48.setCell ⟨gb233, 0, none⟩ (.int .i64 ((rd_T93 (rd_L2 l0_0 x44_2) x50_3).f0))).setCell ⟨gb233, 1, none⟩ (.int .i64 ((rd_T93 (rd_L2 l0_0 x44_2) x50_3).f1)))) ?hg ?ho ?hn ?hr ?_; (case ho => rfl); (case hg => rfl); (case hn => rfl); (case hr => first | (go_simp; done) | (go_simp; rfl)); intro w51 hw; have n0_ : zaf (Kd.R (Kd.int .u8) 5 w51 w.heap.size (fun _ => True) u3 x3_3) := ⟨(by rw [hw]; exact (by (with_reducible repeat (first | apply Kd.zba | apply Kd.zbc | apply Kd.zbk)); exact Kd.zbg (Kd.R_far (p := ⟨gb233, 1, none⟩) (Kd.R_far (p := ⟨gb233, 0, none⟩) (Kd.R_types HO_3.out BK233.out (by decide)) (fun _ hk => hk.2) (.int .i64 ((rd_T93 (rd_L2 l0_0 x44_2) x50_3).f0))) (fun _ hk => hk.2) (.int .i64 ((rd_T93 (rd_L2 l0_0 x44_2) x50_3).f1))) (fun _ hk => trivial)))⟩; have n1_ : zaf (w51.heap[gb217]? = some (.cells #[.slice (some ad222) l0_0.length c0_0, .slice (some ad223) l0_1.length c0_1] 25 (0, 0))) := ⟨(by rw [hw]; exact (by (with_reducible repeat (first | apply zai | apply zaj | apply zad)); refine zaq ?_ NB217_233.out _; (with_reducible repeat (first | apply zai | apply zaj | apply zad)); refine zaq ?_ NB217_233.out _; (with_reducible repeat (first | apply zai | apply zaj | apply zad)); exact BK217.out))⟩; have n2_ : zaf (w51.heap[gb233]? = some (.cells #[.int .i64 ((rd_T93 (rd_L2 l0_0 x44_2) x50_3).f0), .int .i64 ((rd_T93 (rd_L2 l0_0 x44_2) x50_3).f1)] 93 (0, 0))) := ⟨(by rw [hw]; exact (by (with_reducible repeat (first | apply zai | apply zaj | apply zad)); refine zar (cs := #[.int .i64 ((rd_T93 (rd_L2 l0_0 x44_2) x50_3).f0), .int .i64 0]) ?_ 1 _ rfl; (with_reducible repeat (first | apply zai | apply zaj | apply zad)); refine zar (cs := #[.int .i64 0, .int .i64 0]) ?_ 0 _ rfl; (with_reducible repeat (first | apply zai | apply zaj | apply zad)); exact BK233.out))⟩; have n3_ : zaf (Below w.heap.size w w51) := ⟨(by rw [hw]; exact (by repeat (first | (with_reducible first | exact HB.out | apply zab | apply zaa | apply zah | refine zae ?_ GE217.out | refine zae ?_ GE233.out) | exact HB.out)))⟩; clear hw; clear HO_3; clear BK217; clear BK233; clear HB; have HO_3 := n0_; have BK217 := n1_; have BK233 := n2_; have HB := n3_; clear n0_ n1_ n2_ n3_; have hcz52_0 : w51.cell? ⟨gb233, 0, none⟩ = some (.int .i64 ((rd_T93 (rd_L2 l0_0 x44_2) x50_3).f0)) := (zac BK233.out 0).trans rfl; have hcz52_1 : w51.cell? ⟨gb233, 1, none⟩ = some (.int .i64 ((rd_T93 (rd_L2 l0_0 x44_2) x50_3).f1)) := (zac BK233.out 1).trans rfl; have hfz52_0 := zak BK233.out 0; have hfz52_1 := zak BK233.out 1; obtain ⟨Ao53, co53, eo53⟩ := Kd.R_slice HO_3.out; subst eo53) | ((with_reducible refine gate_callee (f := 47) rfl ?_); refine goesL_ (some 71) rfl rfl Tryd.func47 (by kernel_rfl) rfl #[.slice Ao53 x3_3.length co53, .int .i64 (wrap64 ((wrap64 (2 * ((rd_T93 (rd_L2 l0_0 x44_2) x50_3).f1))) + 2))] rfl (by (try simp only [List.map_toArray, List.map_cons, List.map_nil]); first | done | rfl | (simp only [List.length_drop, List.length_take]; rfl)) ?_; (with_reducible refine (table_count.calls k3 (fun k_ => some k_ = (.slice Ao53 x3_3.length co53 : Value).ownBlock) (.slice Ao53 x3_3.length co53) x3_3 (wrap64 ((wrap64 (2 * ((rd_T93 (rd_L2 l0_0 x44_2) x50_3).f1))) + 2)) t240 w _ ?side1 ?side2 A47.out).mono ?_); (case side1 => repeat (first | (with_reducible first | exact HB.out | apply zab | apply zaa | apply zah | refine zae ?_ GE217.out | refine zae ?_ GE233.out) | exact HB.out)); (case side2 => exact Kd.R_tight rfl HO_3.out); rintro e w54 ⟨v241, rfl, ho0, hb, hkp⟩; refine ⟨_, rfl, ?_⟩; have n0_ := zaf.mk (blk_kept (by (with_reducible repeat (first | apply zai | apply zaj | apply zad)); exact BK217.out) hkp (fun hs_ => (fun e_ => (Kd.R_ne HO_3.out BK217.out (by decide)) e_) hs_)); have n1_ := zaf.mk (blk_kept (by (with_reducible repeat (first | apply zai | apply zaj | apply zad)); exact BK233.out) hkp (fun hs_ => (fun e_ => (Kd.R_ne HO_3.out BK233.out (by decide)) e_) hs_)); have n2_ := zaf.mk (Kd.zbg (ok' := fun k_ => True) ho0 (fun k_ hk_ => trivial)); have n3_ := zaf.mk (hb); clear BK217; clear BK233; clear HB; clear HO_3; have BK217 := n0_; have BK233 := n1_; have HO242 := n2_; have HB := n3_; clear n0_ n1_ n2_ n3_; (try clear hb); (try clear hkp); (try clear ho0)))
                    go_roundg k3
                    case measure => have := HK1.out; have := HK2.out; have := HK3.out; omega
                    case rel => exact ⟨(t240), (wrap64 (x50_3 + 1)), (by first | rfl | (simp; done) | (simp [*]; done)), H', ⟨by have := HK1.out; have := HK2.out; have := HK3.out; omega⟩, ⟨by (with_reducible repeat (first | apply Kd.zba | apply Kd.zbc | apply Kd.zbk)); exact HO242.out⟩, ⟨by (with_reducible repeat (first | apply zai | apply zaj | apply zad)); exact BK217.out⟩, ⟨by repeat (first | (with_reducible first | exact HB.out | apply zab | apply zaa | apply zah | refine zae ?_ GE217.out | refine zae ?_ GE233.out) | exact HB.out)⟩⟩
                   ·rw [if_neg c46] at H; have c46b0 : (((rd_T93 (rd_L2 l0_0 x44_2) x50_3).f0) == 1) = false := beq_eq_false_iff_ne.mpr c46; have c46b1 : (((rd_T93 (rd_L2 l0_0 x44_2) x50_3).f0) != 1) = true := bne_iff_ne.mpr c46; by_cases c55 : ((rd_T93 (rd_L2 l0_0 x44_2) x50_3).f0) = 2
                    ·rw [if_pos c55] at H; have c55b0 : (((rd_T93 (rd_L2 l0_0 x44_2) x50_3).f0) == 2) = true := beq_iff_eq.mpr c55; have c55b1 : (((rd_T93 (rd_L2 l0_0 x44_2) x50_3).f0) != 2) = false := bne_eq_false_iff_eq.mpr c55; clear c55; replace H := Option.bind_eq_some_iff.mp H; obtain ⟨t243, A560, H⟩ := H; replace H : (table_Encode.l2 k3 t243 l0_0 (l0_0.length : Int) x44_2 (rd_L2 l0_0 x44_2) ((rd_L2 l0_0 x44_2).length : Int) (wrap64 (x50_3 + 1)) l0_0 l0_1) = some r := H; have A56 := zaf.mk A560; clear A560; have H' := zaf.mk H; clear H; have p232 : 0 ≤ (x50_3 : Int) := of_decide_eq_true (by first | (with_reducible assumption) | assumption)
                     have q232 : x50_3 < ((rd_L2 l0_0 x44_2).length : Int) := of_decide_eq_true (by first | (with_reducible assumption) | assumption)
                     obtain ⟨ad232, e232, hx232_0, hx232_1⟩ := at_T93 HR231_0.out x50_3 p232 q232; cases e232; replace hx232_0 := (HB.out.cell (World.block_lt_of_cell? w _ hx232_0)).trans hx232_0; replace hx232_1 := (HB.out.cell (World.block_lt_of_cell? w _ hx232_1)).trans hx232_1; replace p232 := eq_true p232; replace q232 := eq_true q232
                     go_wp2_with (first | ((with_reducible refine zbb (N := 9) rfl ?_); refine zaz ?hg (N := 9) ?hd (cs := #[.int .i64 0, .int .i64 0]) (t := 93) ?hr ?_; (case hd => rfl); (case hg => rfl); (case hr => first | (go_simp; done) | (go_simp; rfl)); intro gb233 hg w57 hbox hb; have n0_ := zaf.mk (Kd.zbi (by (with_reducible repeat (first | apply Kd.zba | apply Kd.zbc | apply Kd.zbk)); exact HO_3.out) hb); have n1_ := zaf.mk (zal (g := gb217) (o := .cells #[.slice (some ad222) l0_0.length c0_0, .slice (some ad223) l0_1.length c0_1] 25 (0, 0)) (by (with_reducible repeat (first | apply zai | apply zaj | apply zad)); exact BK217.out) hb); have n2_ := zaf.mk (zam (by repeat (first | (with_reducible first | exact HB.out | apply zab | apply zaa | apply zah | refine zae ?_ GE217.out) | exact HB.out)) hb); have n3_ := zaf.mk (hbox); have n4_ := zaf.mk ((by rw [hg]; exact (zan (by repeat (first | (with_reducible first | exact HB.out | apply zab | apply zaa | apply zah | refine zae ?_ GE217.out) | exact HB.out))) : w.heap.size ≤ gb233)); have n5_ := zaf.mk ((by rw [hg]; exact (zan (by repeat (first | (with_reducible first | exact HB.out | apply zab | apply zaa | apply zah | refine zae ?_ GE217.out) | exact HB.out))) : w.heap.size ≤ gb233)); have n6_ := zaf.mk ((by rw [hg]; exact Nat.ne_of_lt (zau (g := gb217) (o := .cells #[.slice (some ad222) l0_0.length c0_0, .slice (some ad223) l0_1.length c0_1] 25 (0, 0)) (by (with_reducible repeat (first | apply zai | apply zaj | apply zad)); exact BK217.out)) : gb217 ≠ gb233)); have n7_ := zaf.mk ((by rw [hg]; exact Nat.ne_of_gt (zau (g := gb217) (o := .cells #[.slice (some ad222) l0_0.length c0_0, .slice (some ad223) l0_1.length c0_1] 25 (0, 0)) (by (with_reducible repeat (first | apply zai | apply zaj | apply zad)); exact BK217.out)) : gb233 ≠ gb217)); clear HO_3; clear BK217; clear HB; have HO_3 := n0_; have BK217 := n1_; have HB := n2_; have BK233 := n3_; have GW233 := n4_; have GE233 := n5_; have NB217_233 := n6_; have NB233_217 := n7_; clear n0_ n1_ n2_ n3_ n4_ n5_ n6_ n7_; clear hb hbox hg; have hnb58 := NB233_217.out; have hnc58 := NB217_233.out; have hcz59_0 : w57.cell? ⟨gb233, 0, none⟩ = some (.int .i64 0) := (zac BK233.out 0).trans rfl; have hcz59_1 : w57.cell? ⟨gb233, 1, none⟩ = some (.int .i64 0) := (zac BK233.out 1).trans rfl; have hfz59_0 := zak BK233.out 0; have hfz59_1 := zak BK233.out 1) | ((with_reducible refine gate_store (t := 93) (p := 9) rfl ?_); refine store_event (t := 93) (p := 9) (v := ?vo_w60) (w1 := ((w57.setCell ⟨gb233, 0, none⟩ (.int .i64 ((rd_T93 (rd_L2 l0_0 x44_2) x50_3).f0))).setCell ⟨gb233, 1, none⟩ (.int .i64 ((rd_T93 (rd_L2 l0_0 x44_2) x50_3).f1)))) ?hg ?ho ?hn ?hr ?_; (case ho => rfl); (case hg => rfl); (case hn => rfl); (case hr => first | (go_simp; done) | (go_simp; rfl)); intro w60 hw; have n0_ : zaf (Kd.R (Kd.int .u8) 5 w60 w.heap.size (fun _ => True) u3 x3_3) := ⟨(by rw [hw]; exact (by (with_reducible repeat (first | apply Kd.zba | apply Kd.zbc | apply Kd.zbk)); exact Kd.zbg (Kd.R_far (p := ⟨gb233, 1, none⟩) (Kd.R_far (p := ⟨gb233, 0, none⟩) (Kd.R_types HO_3.out BK233.out (by decide)) (fun _ hk => hk.2) (.int .i64 ((rd_T93 (rd_L2 l0_0 x44_2) x50_3).f0))) (fun _ hk => hk.2) (.int .i64 ((rd_T93 (rd_L2 l0_0 x44_2) x50_3).f1))) (fun _ hk => trivial)))⟩; have n1_ : zaf (w60.heap[gb217]? = some (.cells #[.slice (some ad222) l0_0.length c0_0, .slice (some ad223) l0_1.length c0_1] 25 (0, 0))) := ⟨(by rw [hw]; exact (by (with_reducible repeat (first | apply zai | apply zaj | apply zad)); refine zaq ?_ NB217_233.out _; (with_reducible repeat (first | apply zai | apply zaj | apply zad)); refine zaq ?_ NB217_233.out _; (with_reducible repeat (first | apply zai | apply zaj | apply zad)); exact BK217.out))⟩; have n2_ : zaf (w60.heap[gb233]? = some (.cells #[.int .i64 ((rd_T93 (rd_L2 l0_0 x44_2) x50_3).f0), .int .i64 ((rd_T93 (rd_L2 l0_0 x44_2) x50_3).f1)] 93 (0, 0))) := ⟨(by rw [hw]; exact (by (with_reducible repeat (first | apply zai | apply zaj | apply zad)); refine zar (cs := #[.int .i64 ((rd_T93 (rd_L2 l0_0 x44_2) x50_3).f0), .int .i64 0]) ?_ 1 _ rfl; (with_reducible repeat (first | apply zai | apply zaj | apply zad)); refine zar (cs := #[.int .i64 0, .int .i64 0]) ?_ 0 _ rfl; (with_reducible repeat (first | apply zai | apply zaj | apply zad)); exact BK233.out))⟩; have n3_ : zaf (Below w.heap.size w w60) := ⟨(by rw [hw]; exact (by repeat (first | (with_reducible first | exact HB.out | apply zab | apply zaa | apply zah | refine zae ?_ GE217.out | refine zae ?_ GE233.out) | exact HB.out)))⟩; clear hw; clear HO_3; clear BK217; clear BK233; clear HB; have HO_3 := n0_; have BK217 := n1_; have BK233 := n2_; have HB := n3_; clear n0_ n1_ n2_ n3_; have hcz61_0 : w60.cell? ⟨gb233, 0, none⟩ = some (.int .i64 ((rd_T93 (rd_L2 l0_0 x44_2) x50_3).f0)) := (zac BK233.out 0).trans rfl; have hcz61_1 : w60.cell? ⟨gb233, 1, none⟩ = some (.int .i64 ((rd_T93 (rd_L2 l0_0 x44_2) x50_3).f1)) := (zac BK233.out 1).trans rfl; have hfz61_0 := zak BK233.out 0; have hfz61_1 := zak BK233.out 1; obtain ⟨Ao62, co62, eo62⟩ := Kd.R_slice HO_3.out; subst eo62) | ((with_reducible refine gate_callee (f := 47) rfl ?_); refine goesL_ (some 79) rfl rfl Tryd.func47 (by kernel_rfl) rfl #[.slice Ao62 x3_3.length co62, .int .i64 (wrap64 ((wrap64 (2 * ((rd_T93 (rd_L2 l0_0 x44_2) x50_3).f1))) + 3))] rfl (by (try simp only [List.map_toArray, List.map_cons, List.map_nil]); first | done | rfl | (simp only [List.length_drop, List.length_take]; rfl)) ?_; (with_reducible refine (table_count.calls k3 (fun k_ => some k_ = (.slice Ao62 x3_3.length co62 : Value).ownBlock) (.slice Ao62 x3_3.length co62) x3_3 (wrap64 ((wrap64 (2 * ((rd_T93 (rd_L2 l0_0 x44_2) x50_3).f1))) + 3)) t243 w _ ?side1 ?side2 A56.out).mono ?_); (case side1 => repeat (first | (with_reducible first | exact HB.out | apply zab | apply zaa | apply zah | refine zae ?_ GE217.out | refine zae ?_ GE233.out) | exact HB.out)); (case side2 => exact Kd.R_tight rfl HO_3.out); rintro e w63 ⟨v244, rfl, ho0, hb, hkp⟩; refine ⟨_, rfl, ?_⟩; have n0_ := zaf.mk (blk_kept (by (with_reducible repeat (first | apply zai | apply zaj | apply zad)); exact BK217.out) hkp (fun hs_ => (fun e_ => (Kd.R_ne HO_3.out BK217.out (by decide)) e_) hs_)); have n1_ := zaf.mk (blk_kept (by (with_reducible repeat (first | apply zai | apply zaj | apply zad)); exact BK233.out) hkp (fun hs_ => (fun e_ => (Kd.R_ne HO_3.out BK233.out (by decide)) e_) hs_)); have n2_ := zaf.mk (Kd.zbg (ok' := fun k_ => True) ho0 (fun k_ hk_ => trivial)); have n3_ := zaf.mk (hb); clear BK217; clear BK233; clear HB; clear HO_3; have BK217 := n0_; have BK233 := n1_; have HO245 := n2_; have HB := n3_; clear n0_ n1_ n2_ n3_; (try clear hb); (try clear hkp); (try clear ho0)))
                     go_roundg k3
                     case measure => have := HK1.out; have := HK2.out; have := HK3.out; omega
                     case rel => exact ⟨(t243), (wrap64 (x50_3 + 1)), (by first | rfl | (simp; done) | (simp [*]; done)), H', ⟨by have := HK1.out; have := HK2.out; have := HK3.out; omega⟩, ⟨by (with_reducible repeat (first | apply Kd.zba | apply Kd.zbc | apply Kd.zbk)); exact HO245.out⟩, ⟨by (with_reducible repeat (first | apply zai | apply zaj | apply zad)); exact BK217.out⟩, ⟨by repeat (first | (with_reducible first | exact HB.out | apply zab | apply zaa | apply zah | refine zae ?_ GE217.out | refine zae ?_ GE233.out) | exact HB.out)⟩⟩
                    ·rw [if_neg c55] at H; have c55b0 : (((rd_T93 (rd_L2 l0_0 x44_2) x50_3).f0) == 2) = false := beq_eq_false_iff_ne.mpr c55; have c55b1 : (((rd_T93 (rd_L2 l0_0 x44_2) x50_3).f0) != 2) = true := bne_iff_ne.mpr c55; have H' := zaf.mk H; clear H; have p232 : 0 ≤ (x50_3 : Int) := of_decide_eq_true (by first | (with_reducible assumption) | assumption)
                     have q232 : x50_3 < ((rd_L2 l0_0 x44_2).length : Int) := of_decide_eq_true (by first | (with_reducible assumption) | assumption)
                     obtain ⟨ad232, e232, hx232_0, hx232_1⟩ := at_T93 HR231_0.out x50_3 p232 q232; cases e232; replace hx232_0 := (HB.out.cell (World.block_lt_of_cell? w _ hx232_0)).trans hx232_0; replace hx232_1 := (HB.out.cell (World.block_lt_of_cell? w _ hx232_1)).trans hx232_1; replace p232 := eq_true p232; replace q232 := eq_true q232
                     go_wp2_with (first | ((with_reducible refine zbb (N := 9) rfl ?_); refine zaz ?hg (N := 9) ?hd (cs := #[.int .i64 0, .int .i64 0]) (t := 93) ?hr ?_; (case hd => rfl); (case hg => rfl); (case hr => first | (go_simp; done) | (go_simp; rfl)); intro gb233 hg w64 hbox hb; have n0_ := zaf.mk (Kd.zbi (by (with_reducible repeat (first | apply Kd.zba | apply Kd.zbc | apply Kd.zbk)); exact HO_3.out) hb); have n1_ := zaf.mk (zal (g := gb217) (o := .cells #[.slice (some ad222) l0_0.length c0_0, .slice (some ad223) l0_1.length c0_1] 25 (0, 0)) (by (with_reducible repeat (first | apply zai | apply zaj | apply zad)); exact BK217.out) hb); have n2_ := zaf.mk (zam (by repeat (first | (with_reducible first | exact HB.out | apply zab | apply zaa | apply zah | refine zae ?_ GE217.out) | exact HB.out)) hb); have n3_ := zaf.mk (hbox); have n4_ := zaf.mk ((by rw [hg]; exact (zan (by repeat (first | (with_reducible first | exact HB.out | apply zab | apply zaa | apply zah | refine zae ?_ GE217.out) | exact HB.out))) : w.heap.size ≤ gb233)); have n5_ := zaf.mk ((by rw [hg]; exact (zan (by repeat (first | (with_reducible first | exact HB.out | apply zab | apply zaa | apply zah | refine zae ?_ GE217.out) | exact HB.out))) : w.heap.size ≤ gb233)); have n6_ := zaf.mk ((by rw [hg]; exact Nat.ne_of_lt (zau (g := gb217) (o := .cells #[.slice (some ad222) l0_0.length c0_0, .slice (some ad223) l0_1.length c0_1] 25 (0, 0)) (by (with_reducible repeat (first | apply zai | apply zaj | apply zad)); exact BK217.out)) : gb217 ≠ gb233)); have n7_ := zaf.mk ((by rw [hg]; exact Nat.ne_of_gt (zau (g := gb217) (o := .cells #[.slice (some ad222) l0_0.length c0_0, .slice (some ad223) l0_1.length c0_1] 25 (0, 0)) (by (with_reducible repeat (first | apply zai | apply zaj | apply zad)); exact BK217.out)) : gb233 ≠ gb217)); clear HO_3; clear BK217; clear HB; have HO_3 := n0_; have BK217 := n1_; have HB := n2_; have BK233 := n3_; have GW233 := n4_; have GE233 := n5_; have NB217_233 := n6_; have NB233_217 := n7_; clear n0_ n1_ n2_ n3_ n4_ n5_ n6_ n7_; clear hb hbox hg; have hnb65 := NB233_217.out; have hnc65 := NB217_233.out; have hcz66_0 : w64.cell? ⟨gb233, 0, none⟩ = some (.int .i64 0) := (zac BK233.out 0).trans rfl; have hcz66_1 : w64.cell? ⟨gb233, 1, none⟩ = some (.int .i64 0) := (zac BK233.out 1).trans rfl; have hfz66_0 := zak BK233.out 0; have hfz66_1 := zak BK233.out 1))
                     go_roundg k3
                     case measure => have := HK1.out; have := HK2.out; have := HK3.out; omega
                     case rel => exact ⟨(x3_3), (wrap64 (x50_3 + 1)), (by first | rfl | (simp; done) | (simp [*]; done)), H', ⟨by have := HK1.out; have := HK2.out; have := HK3.out; omega⟩, ⟨by (with_reducible repeat (first | apply Kd.zba | apply Kd.zbc | apply Kd.zbk)); exact Kd.zbg (Kd.R_far (p := ⟨gb233, 1, none⟩) (Kd.R_far (p := ⟨gb233, 0, none⟩) (Kd.R_types HO_3.out BK233.out (by decide)) (fun _ hk => hk.2) (.int .i64 ((rd_T93 (rd_L2 l0_0 x44_2) x50_3).f0))) (fun _ hk => hk.2) (.int .i64 ((rd_T93 (rd_L2 l0_0 x44_2) x50_3).f1))) (fun _ hk => trivial)⟩, ⟨by (with_reducible repeat (first | apply zai | apply zaj | apply zad)); refine zaq ?_ NB217_233.out _; (with_reducible repeat (first | apply zai | apply zaj | apply zad)); refine zaq ?_ NB217_233.out _; (with_reducible repeat (first | apply zai | apply zaj | apply zad)); exact BK217.out⟩, ⟨by repeat (first | (with_reducible first | exact HB.out | apply zab | apply zaa | apply zah | refine zae ?_ GE217.out | refine zae ?_ GE233.out) | exact HB.out)⟩⟩
                ·rw [if_neg c27] at H; exact absurd H (by simp)
               ·rw [if_neg c26] at H; exact absurd H (by simp)
              ·rw [if_neg c25] at H; have c25b0 : decide (x50_3 < ((rd_L2 l0_0 x44_2).length : Int)) = false := decide_eq_false c25; clear c25; have H' := zaf.mk H; clear H; go_wp2
               go_roundg k3
               case measure => have := HK1.out; have := HK2.out; have := HK3.out; omega
               case rel => exact ⟨(x3_3), (wrap64 (x44_2 + 1)), (by first | rfl | (simp; done) | (simp [*]; done)), H', ⟨by have := HK1.out; have := HK2.out; have := HK3.out; omega⟩, ⟨by (with_reducible repeat (first | apply Kd.zba | apply Kd.zbc | apply Kd.zbk)); exact HO_3.out⟩, ⟨by (with_reducible repeat (first | apply zai | apply zaj | apply zad)); exact BK217.out⟩, ⟨by repeat (first | (with_reducible first | exact HB.out | apply zab | apply zaa | apply zah | refine zae ?_ GE217.out) | exact HB.out)⟩⟩
           ·rw [if_neg c24] at H; exact absurd H (by simp)
          ·rw [if_neg c23] at H; exact absurd H (by simp)
         ·rw [if_neg c22] at H; have c22b0 : decide (x44_2 < (l0_0.length : Int)) = false := decide_eq_false c22; clear c22; have H' := zaf.mk H; clear H; have hcz67_0 : wr.cell? ⟨gb217, 0, none⟩ = some (.slice (some ad222) l0_0.length c0_0) := (zac BK217.out 0).trans rfl; have hcz67_1 : wr.cell? ⟨gb217, 1, none⟩ = some (.slice (some ad223) l0_1.length c0_1) := (zac BK217.out 1).trans rfl; have hfz67_0 := zak BK217.out 0; have hfz67_1 := zak BK217.out 1; go_wp2
          go_loopg [3, 85] k2 (fun kq v3 v85 w' => ∃ (x3_3 : List Int) (x85_3 : Int), v85 = .int .i64 x85_3 ∧ zaf (table_Encode.l3 kq x3_3 l0_1 (l0_1.length : Int) x85_3 = some r) ∧ zaf (kq ≤ k2) ∧ zaf (Kd.R (Kd.int .u8) 5 w' w.heap.size (fun _ => True) v3 x3_3) ∧ zaf (w'.heap[gb217]? = some (.cells #[(.slice (some ad222) l0_0.length c0_0), (.slice (some ad223) l0_1.length c0_1)] 25 (0, 0))) ∧ zaf (Below w.heap.size w w'))
          case atStart => exact ⟨(x3_2), (0), (by first | rfl | (simp; done) | (simp [*]; done)), H', ⟨Nat.le_refl _⟩, ⟨by (with_reducible repeat (first | apply Kd.zba | apply Kd.zbc | apply Kd.zbk)); exact HO_3.out⟩, ⟨by (with_reducible repeat (first | apply zai | apply zaj | apply zad)); exact BK217.out⟩, ⟨by repeat (first | (with_reducible first | exact HB.out | apply zab | apply zaa | apply zah | refine zae ?_ GE217.out) | exact HB.out)⟩⟩
          case round =>
           clear H'
           try clear c1
           try clear c2
           try clear p2
           try clear q2
           try clear hx2
           try clear qi2
           try clear c3
           try clear c4
           try clear c4b0
           try clear c4b1
           try clear c5
           try clear c5b0
           try clear c5b1
           try clear c6
           try clear p6
           try clear c15
           try clear c15b0
           try clear c16
           try clear c16b0
           try clear c17
           try clear c17b0
           try clear c22
           try clear c22b0
           try clear p22
           try clear q22
           try clear hx22
           try clear qi22
           try clear c23
           try clear c23b0
           try clear p23
           try clear q23
           try clear hx23
           try clear c24
           try clear c24b0
           try clear c25
           try clear c25b0
           try clear c26
           try clear c26b0
           try clear c27
           try clear c27b0
           try clear c28
           try clear c28b0
           try clear c28b1
           try clear c31
           try clear c37
           try clear c37b0
           try clear c37b1
           try clear c40
           try clear c46
           try clear c46b0
           try clear c46b1
           try clear c47
           try clear c49
           try clear c55
           try clear c55b0
           try clear c55b1
           try clear c58
           try clear p64
           try clear c65
           try clear hcz21_0
           try clear hcz21_1
           try clear hcz32_0
           try clear hcz32_1
           try clear hcz34_0
           try clear hcz34_1
           try clear hcz41_0
           try clear hcz41_1
           try clear hcz43_0
           try clear hcz43_1
           try clear hcz50_0
           try clear hcz50_1
           try clear hcz52_0
           try clear hcz52_1
           try clear hcz59_0
           try clear hcz59_1
           try clear hcz61_0
           try clear hcz61_1
           try clear hcz66_0
           try clear hcz66_1
           try clear hcz67_0
           try clear hcz67_1
           try clear hcz7_0
           try clear hcz7_1
           try clear hfz21_0
           try clear hfz21_1
           try clear hfz32_0
           try clear hfz32_1
           try clear hfz34_0
           try clear hfz34_1
           try clear hfz41_0
           try clear hfz41_1
           try clear hfz43_0
           try clear hfz43_1
           try clear hfz50_0
           try clear hfz50_1
           try clear hfz52_0
           try clear hfz52_1
           try clear hfz59_0
           try clear hfz59_1
           try clear hfz61_0
           try clear hfz61_1
           try clear hfz66_0
           try clear hfz66_1
           try clear hfz67_0
           try clear hfz67_1
           try clear hfz7_0
           try clear hfz7_1
           try clear hx222_0
           try clear hx223_0
           try clear hx227_0
           try clear hx231_0
           try clear hx232_0
           try clear hx232_1
           try clear p2
           try clear p22
           try clear p222
           try clear p223
           try clear p227
           try clear p23
           try clear p231
           try clear p232
           try clear p6
           try clear q2
           try clear q22
           try clear q222
           try clear q223
           try clear q227
           try clear q23
           try clear q231
           try clear q232
           obtain ⟨x3_3, x85_3, rfl, HA, HK3, HO_3, BK217, HB⟩ := hrel; cases gk with
           | zero => exact absurd HA.out (by simp [table_Encode.l3])
           | succ k3 =>
            have H := HA.out; clear HA; simp only [table_Encode.l3] at H; by_cases c68 : x85_3 < (l0_1.length : Int)
            ·rw [if_pos c68] at H; have c68b0 : decide (x85_3 < (l0_1.length : Int)) = true := decide_eq_true c68; clear c68; by_cases c69 : 0 ≤ x85_3
             ·rw [if_pos c69] at H; have c69b0 : decide (0 ≤ x85_3) = true := decide_eq_true c69; clear c69; by_cases c70 : x85_3 < (l0_1.length : Int)
              ·rw [if_pos c70] at H; have c70b0 : decide (x85_3 < (l0_1.length : Int)) = true := decide_eq_true c70; clear c70; have H' := zaf.mk H; clear H; have p246 : 0 ≤ (x85_3 : Int) := of_decide_eq_true (by first | (with_reducible assumption) | assumption)
               have q246 : x85_3 < (l0_1.length : Int) := of_decide_eq_true (by first | (with_reducible assumption) | assumption)
               obtain ⟨ad246, A246_0, c246_0, e246, hx246_0, hl246_0, hi246_0⟩ := at_L3 HR0_1.out x85_3 p246 q246; obtain rfl : ad223 = ad246 := (by injection e246)
               replace hx246_0 := (HB.out.cell (World.block_lt_of_cell? w _ hx246_0)).trans hx246_0; have HR246_0 := zaf.mk hi246_0; have HC246_0 := zaf.mk hl246_0; clear hi246_0 hl246_0; replace p246 := eq_true p246; replace q246 := eq_true q246; go_wp2
               go_loopg [3, 91] k3 (fun kq v3 v91 w' => ∃ (x3_4 : List Int) (x91_4 : Int), v91 = .int .i64 x91_4 ∧ zaf (table_Encode.l4 kq x3_4 l0_1 (l0_1.length : Int) x85_3 (rd_L3 l0_1 x85_3) ((rd_L3 l0_1 x85_3).length : Int) x91_4 = some r) ∧ zaf (kq ≤ k3) ∧ zaf (Kd.R (Kd.int .u8) 5 w' w.heap.size (fun _ => True) v3 x3_4) ∧ zaf (w'.heap[gb217]? = some (.cells #[(.slice (some ad222) l0_0.length c0_0), (.slice (some ad223) l0_1.length c0_1)] 25 (0, 0))) ∧ zaf (Below w.heap.size w w'))
               case atStart => exact ⟨(x3_3), (0), (by first | rfl | (simp; done) | (simp [*]; done)), H', ⟨Nat.le_refl _⟩, ⟨by (with_reducible repeat (first | apply Kd.zba | apply Kd.zbc | apply Kd.zbk)); exact HO_3.out⟩, ⟨by (with_reducible repeat (first | apply zai | apply zaj | apply zad)); exact BK217.out⟩, ⟨by repeat (first | (with_reducible first | exact HB.out | apply zab | apply zaa | apply zah | refine zae ?_ GE217.out) | exact HB.out)⟩⟩
               case round =>
                clear H'
                try clear c1
                try clear c2
                try clear p2
                try clear q2
                try clear hx2
                try clear qi2
                try clear c3
                try clear c4
                try clear c4b0
                try clear c4b1
                try clear c5
                try clear c5b0
                try clear c5b1
                try clear c6
                try clear p6
                try clear c7
                try clear c15
                try clear c15b0
                try clear c16
                try clear c16b0
                try clear c17
                try clear c17b0
                try clear c22
                try clear c22b0
                try clear p22
                try clear q22
                try clear hx22
                try clear qi22
                try clear c23
                try clear c23b0
                try clear p23
                try clear q23
                try clear hx23
                try clear c24
                try clear c24b0
                try clear p24
                try clear q24
                try clear hx24
                try clear c25
                try clear c25b0
                try clear c26
                try clear c26b0
                try clear c27
                try clear c27b0
                try clear c28
                try clear c28b0
                try clear c28b1
                try clear c31
                try clear c37
                try clear c37b0
                try clear c37b1
                try clear c40
                try clear c46
                try clear c46b0
                try clear c46b1
                try clear c47
                try clear c49
                try clear c55
                try clear c55b0
                try clear c55b1
                try clear c58
                try clear p64
                try clear c65
                try clear c68
                try clear c68b0
                try clear c69
                try clear c69b0
                try clear c70
                try clear c70b0
                try clear hcz21_0
                try clear hcz21_1
                try clear hcz32_0
                try clear hcz32_1
                try clear hcz34_0
                try clear hcz34_1
                try clear hcz41_0
                try clear hcz41_1
                try clear hcz43_0
                try clear hcz43_1
                try clear hcz50_0
                try clear hcz50_1
                try clear hcz52_0
                try clear hcz52_1
                try clear hcz59_0
                try clear hcz59_1
                try clear hcz61_0
                try clear hcz61_1
                try clear hcz66_0
                try clear hcz66_1
                try clear hcz67_0
                try clear hcz67_1
                try clear hcz7_0
                try clear hcz7_1
                try clear hfz21_0
                try clear hfz21_1
                try clear hfz32_0
                try clear hfz32_1
                try clear hfz34_0
                try clear hfz34_1
                try clear hfz41_0
                try clear hfz41_1
                try clear hfz43_0
                try clear hfz43_1
                try clear hfz50_0
                try clear hfz50_1
                try clear hfz52_0
                try clear hfz52_1
                try clear hfz59_0
                try clear hfz59_1
                try clear hfz61_0
                try clear hfz61_1
                try clear hfz66_0
                try clear hfz66_1
                try clear hfz67_0
                try clear hfz67_1
                try clear hfz7_0
                try clear hfz7_1
                try clear hx222_0
                try clear hx223_0
                try clear hx227_0
                try clear hx231_0
                try clear hx232_0
                try clear hx232_1
                try clear hx246_0
                try clear p2
                try clear p22
                try clear p222
                try clear p223
                try clear p227
                try clear p23
                try clear p231
                try clear p232
                try clear p246
                try clear p6
                try clear p64
                try clear q2
                try clear q22
                try clear q222
                try clear q223
                try clear q227
                try clear q23
                try clear q231
                try clear q232
                try clear q246
                obtain ⟨x3_4, x91_4, rfl, HA, HK4, HO_3, BK217, HB⟩ := hrel; cases gk with
                | zero => exact absurd HA.out (by simp [table_Encode.l4])
                | succ k4 =>
                 have H := HA.out; clear HA; simp only [table_Encode.l4] at H; by_cases c71 : x91_4 < ((rd_L3 l0_1 x85_3).length : Int)
                 ·rw [if_pos c71] at H; have c71b0 : decide (x91_4 < ((rd_L3 l0_1 x85_3).length : Int)) = true := decide_eq_true c71; clear c71; by_cases c72 : 0 ≤ x91_4
                  ·rw [if_pos c72] at H; have c72b0 : decide (0 ≤ x91_4) = true := decide_eq_true c72; clear c72; by_cases c73 : x91_4 < ((rd_L3 l0_1 x85_3).length : Int)
                   ·rw [if_pos c73] at H; have c73b0 : decide (x91_4 < ((rd_L3 l0_1 x85_3).length : Int)) = true := decide_eq_true c73; clear c73; replace H := Option.bind_eq_some_iff.mp H; obtain ⟨t248, A740, H⟩ := H; replace H : (table_Encode.l4 k4 t248 l0_1 (l0_1.length : Int) x85_3 (rd_L3 l0_1 x85_3) ((rd_L3 l0_1 x85_3).length : Int) (wrap64 (x91_4 + 1))) = some r := H; have A74 := zaf.mk A740; clear A740; have H' := zaf.mk H; clear H; have p247 : 0 ≤ (x91_4 : Int) := of_decide_eq_true (by first | (with_reducible assumption) | assumption)
                    have q247 : x91_4 < ((rd_L3 l0_1 x85_3).length : Int) := of_decide_eq_true (by first | (with_reducible assumption) | assumption)
                    obtain ⟨ad247, e247, hx247_0⟩ := Kd.at_int HR246_0.out x91_4 p247 q247; cases e247; replace hx247_0 := (HB.out.cell (World.block_lt_of_cell? w _ hx247_0)).trans hx247_0; replace p247 := eq_true p247; replace q247 := eq_true q247; obtain ⟨Ao75, co75, eo75⟩ := Kd.R_slice HO_3.out; subst eo75
                    go_wp2_with (first | ((with_reducible refine gate_callee (f := 47) rfl ?_); refine goesL_ (some 98) rfl rfl Tryd.func47 (by kernel_rfl) rfl #[.slice Ao75 x3_4.length co75, .int .i64 (wrap64 ((rd (rd_L3 l0_1 x85_3) x91_4) + 1))] rfl (by (try simp only [List.map_toArray, List.map_cons, List.map_nil]); first | done | rfl | (simp only [List.length_drop, List.length_take]; rfl)) ?_; (with_reducible refine (table_count.calls k4 (fun k_ => some k_ = (.slice Ao75 x3_4.length co75 : Value).ownBlock) (.slice Ao75 x3_4.length co75) x3_4 (wrap64 ((rd (rd_L3 l0_1 x85_3) x91_4) + 1)) t248 w _ ?side1 ?side2 A74.out).mono ?_); (case side1 => repeat (first | (with_reducible first | exact HB.out | apply zab | apply zaa | apply zah | refine zae ?_ GE217.out) | exact HB.out)); (case side2 => exact Kd.R_tight rfl HO_3.out); rintro e w76 ⟨v249, rfl, ho0, hb, hkp⟩; refine ⟨_, rfl, ?_⟩; have n0_ := zaf.mk (blk_kept (by (with_reducible repeat (first | apply zai | apply zaj | apply zad)); exact BK217.out) hkp (fun hs_ => (fun e_ => (Kd.R_ne HO_3.out BK217.out (by decide)) e_) hs_)); have n1_ := zaf.mk (Kd.zbg (ok' := fun k_ => True) ho0 (fun k_ hk_ => trivial)); have n2_ := zaf.mk (hb); clear BK217; clear HB; clear HO_3; have BK217 := n0_; have HO250 := n1_; have HB := n2_; clear n0_ n1_ n2_; (try clear hb); (try clear hkp); (try clear ho0)))
                    go_roundg k4
                    case measure => have := HK1.out; have := HK2.out; have := HK3.out; have := HK4.out; omega
                    case rel => exact ⟨(t248), (wrap64 (x91_4 + 1)), (by first | rfl | (simp; done) | (simp [*]; done)), H', ⟨by have := HK1.out; have := HK2.out; have := HK3.out; have := HK4.out; omega⟩, ⟨by (with_reducible repeat (first | apply Kd.zba | apply Kd.zbc | apply Kd.zbk)); exact HO250.out⟩, ⟨by (with_reducible repeat (first | apply zai | apply zaj | apply zad)); exact BK217.out⟩, ⟨by repeat (first | (with_reducible first | exact HB.out | apply zab | apply zaa | apply zah | refine zae ?_ GE217.out) | exact HB.out)⟩⟩
                   ·rw [if_neg c73] at H; exact absurd H (by simp)
                  ·rw [if_neg c72] at H; exact absurd H (by simp)
                 ·rw [if_neg c71] at H; have c71b0 : decide (x91_4 < ((rd_L3 l0_1 x85_3).length : Int)) = false := decide_eq_false c71; clear c71; have H' := zaf.mk H; clear H; go_wp2
                  go_roundg k4
                  case measure => have := HK1.out; have := HK2.out; have := HK3.out; have := HK4.out; omega
                  case rel => exact ⟨(x3_4), (wrap64 (x85_3 + 1)), (by first | rfl | (simp; done) | (simp [*]; done)), H', ⟨by have := HK1.out; have := HK2.out; have := HK3.out; have := HK4.out; omega⟩, ⟨by (with_reducible repeat (first | apply Kd.zba | apply Kd.zbc | apply Kd.zbk)); exact HO_3.out⟩, ⟨by (with_reducible repeat (first | apply zai | apply zaj | apply zad)); exact BK217.out⟩, ⟨by repeat (first | (with_reducible first | exact HB.out | apply zab | apply zaa | apply zah | refine zae ?_ GE217.out) | exact HB.out)⟩⟩
              ·rw [if_neg c70] at H; exact absurd H (by simp)
             ·rw [if_neg c69] at H; exact absurd H (by simp)
            ·rw [if_neg c68] at H; have c68b0 : decide (x85_3 < (l0_1.length : Int)) = false := decide_eq_false c68; clear c68; obtain rfl := Option.some.inj H; have hcv77 := own_string (P := Tryd.prog) Tryd.underlying70 Tryd.underlying5 Tryd.underlying9 (Kd.own_of_R HO_3.out); go_wp2; go_ret; exact ⟨by first | rfl | (simp [errW_none, errW_some] <;> rfl) | (simp [*, errW_none, errW_some] <;> rfl), by repeat (first | (with_reducible first | exact HB.out | apply zab | apply zaa | apply zah | refine zae ?_ GE217.out) | exact HB.out)⟩
   ·rw [if_neg c5] at H; exact absurd H (by simp)
  ·rw [if_neg c4] at H; exact absurd H (by simp)
 ·replace c3 := Bool.eq_false_iff.mpr c3; subst c3; have H1 : (some (⟨#[]⟩ : ByteArray)) = some r := by rw [if_neg (show ¬ (false = true) by decide)] at H; exact H
  clear H; have H := H1; clear H1; obtain rfl := Option.some.inj H
  go_enter Tryd.func24, Tryd.ntmps24
  go_wp2_with (first | ((with_reducible refine zbb (N := 1) rfl ?_); refine zaz ?hg (N := 1) ?hd (cs := #[.slice A0_0 l0_0.length c0_0, .slice A0_1 l0_1.length c0_1]) (t := 25) ?hr ?_; (case hd => rfl); (case hg => rfl); (case hr => first | (go_simp; done) | (go_simp; rfl)); intro gb217 hg w78 hbox hb; have n0_ := zaf.mk (zam (by repeat (first | (with_reducible first | exact HB.out | apply zab | apply zaa | apply zah) | exact HB.out)) hb); have n1_ := zaf.mk (hbox); have n2_ := zaf.mk ((by rw [hg]; exact (zan (by repeat (first | (with_reducible first | exact HB.out | apply zab | apply zaa | apply zah) | exact HB.out))) : w.heap.size ≤ gb217)); have n3_ := zaf.mk ((by rw [hg]; exact (zan (by repeat (first | (with_reducible first | exact HB.out | apply zab | apply zaa | apply zah) | exact HB.out))) : w.heap.size ≤ gb217)); clear HB; have HB := n0_; have BK217 := n1_; have GW217 := n2_; have GE217 := n3_; clear n0_ n1_ n2_ n3_; clear hb hbox hg; have hcz79_0 : w78.cell? ⟨gb217, 0, none⟩ = some (.slice A0_0 l0_0.length c0_0) := (zac BK217.out 0).trans rfl; have hcz79_1 : w78.cell? ⟨gb217, 1, none⟩ = some (.slice A0_1 l0_1.length c0_1) := (zac BK217.out 1).trans rfl; have hfz79_0 := zak BK217.out 0; have hfz79_1 := zak BK217.out 1) | ((with_reducible refine gate_callee (f := 46) rfl ?_); refine goesL_ (some 15) rfl rfl Tryd.func46 (by kernel_rfl) rfl #[.agg #[.slice A0_0 l0_0.length c0_0, .slice A0_1 l0_1.length c0_1]] rfl (by (try simp only [List.map_toArray, List.map_cons, List.map_nil]); first | done | rfl | (simp only [List.length_drop, List.length_take]; rfl)) ?_; (with_reducible refine (table_shaped.calls k _ _ l0_0 _ _ l0_1 false _ ?side1 ?side2 ?side3 ?side4 A2.out).mono ?_); (case side1 => repeat (first | exact (Kd.zaw HR0_0.out HB.out) | (with_reducible refine Kd.C_alloc ?_ _) | (with_reducible refine Kd.C_drewN ?_ _) | (with_reducible refine Kd.C_drew ?_))); (case side2 => exact HC0_0.out); (case side3 => repeat (first | exact (Kd.zaw HR0_1.out HB.out) | (with_reducible refine Kd.C_alloc ?_ _) | (with_reducible refine Kd.C_drewN ?_ _) | (with_reducible refine Kd.C_drew ?_))); (case side4 => exact HC0_1.out); rintro e w80 ⟨rfl, hb⟩; refine ⟨_, rfl, ?_⟩; have n0_ := zaf.mk (zal (g := gb217) (o := .cells #[.slice A0_0 l0_0.length c0_0, .slice A0_1 l0_1.length c0_1] 25 (0, 0)) (by (with_reducible repeat (first | apply zai | apply zaj | apply zad)); exact BK217.out) hb); have n1_ := zaf.mk (zam (by repeat (first | (with_reducible first | exact HB.out | apply zab | apply zaa | apply zah | refine zae ?_ GE217.out) | exact HB.out)) hb); clear BK217; clear HB; have BK217 := n0_; have HB := n1_; clear n0_ n1_; (try clear hb); (try clear hb2); (try clear hk); (try clear hi)))
  go_ret; exact ⟨by first | rfl | (simp [errW_none, errW_some] <;> rfl) | (simp [*, errW_none, errW_some] <;> rfl), by repeat (first | (with_reducible first | exact HB.out | apply zab | apply zaa | apply zah | refine zae ?_ GE217.out) | exact HB.out)⟩
end Go.Proofs.YtcijanmckhlpiaaDoor.PTableBack
