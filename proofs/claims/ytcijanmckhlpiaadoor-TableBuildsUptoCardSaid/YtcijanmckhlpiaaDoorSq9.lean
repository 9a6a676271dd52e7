-- Texts of this seat, cut to what is used and merged (by shake.py).
import Derived.Test.YtcijanmckhlpiaaDoorSq3
import Derived.Test.YtcijanmckhlpiaaDoorSq6
import Derived.Test.YtcijanmckhlpiaaDoorSq7
import Derived.Test.YtcijanmckhlpiaaDoorSq8
import Derived.OwnWalk
set_option linter.unusedVariables false
set_option linter.unusedSimpArgs false
namespace Go.Proofs.YtcijanmckhlpiaaDoor
open Go.RowKit Go.Proofs.YtcijanmckhlpiaaDoorW.PrintWords Go.Proofs.YtcijanmckhlpiaaDoorW.PrintLast Go.Proofs.YtcijanmckhlpiaaDoorW.PrintMore Go.Proofs.YtcijanmckhlpiaaDoor.PTableBuilds
namespace Bld
abbrev RS := List S93 × Option Nat
def rd93 (o : List S93) (t : Nat) : S93 := rd_T93 o (t : Int)
def sameA (a b : S93) : Bool := a.f0 == b.f0 && a.f1 == b.f1
def lessB (b : Option Nat) (t : Nat) : Bool := match b with
 | none => true
 | some c => decide (t < c)
def putR (st : RS) (t : Nat) (a : S93) : RS :=
 if (rd93 st.1 t).f0 = 0 then (st.1.set t a, st.2)
 else if sameA (rd93 st.1 t) a = false ∧ lessB st.2 t = true then (st.1, some t)
 else st
def shiftR (goes : List Int) (st : RS) (t : Nat) : RS := if 0 ≤ goes.getD t 0 then putR st t ⟨1, goes.getD t 0⟩ else st
def itemR (ps : List S77) (st : RS) (x : S178) : RS :=
 if x.f1 < ((zal ps x.f0).f1.length : Int) then st
 else if x.f0 = 0 then putR st x.f2.toNat ⟨3, 0⟩
 else putR st x.f2.toNat ⟨2, x.f0⟩
def rowS (T : Nat) (ps : List S77) (set : List S178) (goes : List Int) : RS :=
 set.foldl (itemR ps) ((List.range T).foldl (shiftR goes) (List.replicate T ⟨0, 0⟩, none))
def FitI (T : Nat) (ps : List S77) (set : List S178) : Prop := ∀ x ∈ set, 0 ≤ x.f0 ∧ x.f0 < ps.length ∧ 0 ≤ x.f2 ∧ x.f2 < T
def Bad (W : World) (base state : Nat) (b : Option Nat) (ev : Value) : Prop := match b with
 | none => ev = .nilIface
 | some c => ∃ e, base ≤ e ∧ ev = .iface 122 (.pointer (some ⟨e, 0, none⟩)) ∧ W.heap[e]? = some (.cells #[.int .i64 (state : Int), .int .i64 (c : Int)] 125 (0, 0))
theorem Bad.step {W W1 : World} {base state : Nat} {b : Option Nat} {ev : Value} (h : Bad W base state b ev) (hm : ∀ (e : Nat) (cs : Array Value), W.heap[e]? = some (.cells cs 125 (0, 0)) → W1.heap[e]? = some (.cells cs 125 (0, 0))) : Bad W1 base state b ev := by
 cases b with
 | none => exact h
 | some c =>
  obtain ⟨e, h1, h2, h3⟩ := h; exact ⟨e, h1, h2, hm e _ h3⟩
structure Pr (w0 W : World) (ob og bb sb T oc state : Nat) (ev : Value) (st : RS) : Prop where
 below : Below w0.heap.size w0 W
 ho : W.heap[ob]? = some (.cells #[.slice (some ⟨og, 0, none⟩) T oc] 90 (0, 0))
 row : k93.R 93 W w0.heap.size tru (.slice (some ⟨og, 0, none⟩) T oc) st.1
 hb : W.heap[bb]? = some (.cells #[ev] 27 (0, 0))
 bad : Bad W w0.heap.size state st.2 ev
 hs : W.heap[sb]? = some (.cells #[.int .i64 (state : Int)] 3 (0, 0))
 ge : w0.heap.size ≤ ob ∧ w0.heap.size ≤ bb
 len : st.1.length = T
section
variable {w0 W W1 : World} {ob og bb sb T oc state : Nat} {ev : Value} {st : RS}
theorem Pr.bel (h : Pr w0 W ob og bb sb T oc state ev st) (hb : Below W.heap.size W W1) : Pr w0 W1 ob og bb sb T oc state ev st :=
 ⟨zam h.below hb, zak h.ho hb, Kd.zbf h.row hb, zak h.hb hb, h.bad.step (fun e cs he => zak he hb), zak h.hs hb, h.ge, h.len⟩
theorem Pr.alloc (h : Pr w0 W ob og bb sb T oc state ev st) (o : Obj) : Pr w0 (W.alloc o) ob og bb sb T oc state ev st := h.bel (zac (Below.refl _ _) o)
theorem Pr.drew (h : Pr w0 W ob og bb sb T oc state ev st) : Pr w0 W.drew ob og bb sb T oc state ev st := h.bel (zaw (Below.refl _ _))
theorem Pr.drewN (h : Pr w0 W ob og bb sb T oc state ev st) (n : Nat) : Pr w0 (W.drewN n) ob og bb sb T oc state ev st := h.bel (zab (Below.refl _ _) n)
theorem Pr.putA (h : Pr w0 W ob og bb sb T oc state ev st) {o1 : List S93} (hR : k93.R 93 W1 w0.heap.size tru (.slice (some ⟨og, 0, none⟩) T oc) o1) (hg : W.grownBy W1 (some og)) (hb : Below w0.heap.size w0 W1) (hl : o1.length = T) : Pr w0 W1 ob og bb sb T oc state ev (o1, st.2) := by
 have ne : ∀ {k t : Nat} {cs : Array Value}, W.heap[k]? = some (.cells cs t (0, 0)) → 93 ≠ t → some k ≠ some og := fun hk ht => Kd.R_ne h.row hk ht
 exact ⟨hb, zas h.ho hg (ne h.ho (by decide)), hR, zas h.hb hg (ne h.hb (by decide)), h.bad.step (fun e cs he => zas he hg (ne he (by decide))), zas h.hs hg (ne h.hs (by decide)), h.ge, hl⟩
theorem Pr.setBad (h : Pr w0 W ob og bb sb T oc state ev st) {ev1 : Value} {b1 : Option Nat} (hbad : Bad W w0.heap.size state b1 ev1) : Pr w0 (W.setCell ⟨bb, 0, none⟩ ev1) ob og bb sb T oc state ev1 (st.1, b1) :=
 ⟨zaf h.below h.ge.2, zar h.ho (p := ⟨bb, 0, none⟩) (blk_ne h.ho h.hb (by decide)) _, Kd.zbp h.row h.hb (by decide) 0 _, zat h.hb 0 ev1 rfl, hbad.step (fun e cs he => zar he (p := ⟨bb, 0, none⟩) (blk_ne he h.hb (by decide)) _), zar h.hs (p := ⟨bb, 0, none⟩) (blk_ne h.hs h.hb (by decide)) _, h.ge, h.len⟩
end
theorem as_hitC (e tb : Nat) (w : World) (hg : Dec.ErrType w) (ht : w.heap[tb]? = some (.cells #[.pointer none] 122 (0, 0))) :
  Calls Tryd.prog 33 #[.iface 122 (.pointer (some ⟨e, 0, none⟩)), .iface 123 (.pointer (some ⟨tb, 0, none⟩))] w fun ev w' => ev = .returned (.bool true) ∧ w'.heap[tb]? = some (.cells #[.pointer (some ⟨e, 0, none⟩)] 122 (0, 0)) ∧ KeepBut w w' tb none ∧ (∀ {B : Nat} {w0 : World}, Below B w0 w → B ≤ tb → B ≤ w.heap.size → Below B w0 w') := by
 refine (ErrsC.as_hit ⟨e, 0, none⟩ ⟨tb, 0, none⟩ (.pointer none) w hg ((zaa ht 0).trans rfl) (zae ht 0)).mono ?_; rintro ev w' ⟨h1, rfl⟩; refine ⟨h1, zat (zad (zad (zad (zad ht _) _) _) _) 0 _ rfl, KeepBut.set_ (keep_alloc (keep_alloc (keep_alloc (keep_alloc (KeepBut.refl _ _ _) _) _) _) _) 0 _, ?_⟩; intro B w0 hb h2 h3; exact ((((hb.alloc h3 _).alloc (by rw [World.size_alloc]; omega) _).alloc (by rw [World.size_alloc, World.size_alloc]; omega) _).alloc (by rw [World.size_alloc, World.size_alloc, World.size_alloc]; omega) _).setCell h2 _
theorem Pr.keep {w0 W W1 : World} {ob og bb sb T oc state : Nat} {ev : Value} {st : RS} (h : Pr w0 W ob og bb sb T oc state ev st) {tb : Nat} {cs : Array Value} (ht : W.heap[tb]? = some (.cells cs 122 (0, 0))) (hk : KeepBut W W1 tb none) (hb : Below w0.heap.size w0 W1) : Pr w0 W1 ob og bb sb T oc state ev st :=
 ⟨hb, hk.blk h.ho (blk_ne h.ho ht (by decide)) (by simp), Kd.R_mono (Kd.R_keep (Kd.R_types h.row ht (by decide)) hk (fun _ hk => hk.2)) (fun _ hk => hk.1), hk.blk h.hb (blk_ne h.hb ht (by decide)) (by simp), h.bad.step (fun e cs he => hk.blk he (blk_ne he ht (by decide)) (by simp)), hk.blk h.hs (blk_ne h.hs ht (by decide)) (by simp), h.ge, h.len⟩
def RetPutR (w0 : World) (ob og bb sb T oc state : Nat) (st : RS) (e : Ending) (w' : World) : Prop := e = .returned (.tuple #[]) ∧ ∃ ev, Pr w0 w' ob og bb sb T oc state ev st
theorem add_ogR (og n : Nat) : (⟨og, 0, none⟩ : Addr).add n = ⟨og, n, none⟩ := by
 unfold Addr.add
 split <;> simp_all
theorem sameA_true {x a : S93} (h : sameA x a = true) : x = a := by
 obtain ⟨x0, x1⟩ := x; obtain ⟨a0, a1⟩ := a; unfold sameA at h; simp at h; obtain ⟨rfl, rfl⟩ := h; rfl
set_option maxRecDepth 100000 in
set_option maxHeartbeats 4000000 in
theorem putR_any (w0 : World) (ob og bb sb T oc state : Nat) (ev : Value) (st : RS) (w : World) (t : Nat) (a : S93) (hp : Pr w0 w ob og bb sb T oc state ev st) (ht : t < T) (hT : T ≤ 64) (hg : Dec.ErrType w) :
  Calls Tryd.prog 69 #[.int .i64 (t : Int), .agg #[.int .i64 a.f0, .int .i64 a.f1], .pointer (some ⟨ob, 0, none⟩), .pointer (some ⟨bb, 0, none⟩), .pointer (some ⟨sb, 0, none⟩)] w (RetPutR w0 ob og bb sb T oc state (putR st t a)) := by
 have HP := Lib.hid ((hp.alloc (.cells #[.int .i64 a.f0, .int .i64 a.f1] 93)).alloc (.cells #[.pointer none] 122)); have HA := Lib.hid (zad (zau w (.cells #[.int .i64 a.f0, .int .i64 a.f1] 93)) (.cells #[.pointer none] 122)); have hc := zau (w.alloc (.cells #[.int .i64 a.f0, .int .i64 a.f1] 93)) (.cells #[.pointer none] 122); rw [szA] at hc; have HC := Lib.hid hc; have HG := Lib.hid (hg.below (zac (zac (Below.refl w.heap.size w) (.cells #[.int .i64 a.f0, .int .i64 a.f1] 93)) (.cells #[.pointer none] 122))); have hge7 : w0.heap.size ≤ w.heap.size + 1 := by have := hp.below.size; omega
 clear hp hc hg
 go_enter Tryd.func69, Tryd.ntmps69
 go_wp2_with ((with_reducible refine gate_ (.load 90 (.tmp 2)) rfl ?_); refine Hid.out ?_)
 refine Lib.hid ?_; generalize (w.alloc (.cells #[.int .i64 a.f0, .int .i64 a.f1] 93)).alloc (.cells #[.pointer none] 122) = W1 at *; generalize w.heap.size + 1 = b7 at *; generalize w.heap.size = b6 at *; obtain ⟨hn, hcap, hC⟩ := Kd.zbh HP.out.row; have hl := HP.out.len; have o0 := zaa HP.out.ho 0; have b0 := zaa HP.out.hb 0; have q0 := zaa HA.out 0; have q1 := zaa HA.out 1; obtain ⟨ad, had, a0, a1⟩ := at_T93 hC (t : Int) (Int.natCast_nonneg _) (by omega)
 obtain ⟨ado, co, eo, hco, hKo, hcc⟩ := Kd.C_get hC z93 (t : Int) (Int.natCast_nonneg _) (by omega)
 cases had; cases eo; rw [add_ogR, Int.toNat_natCast] at a0 a1; simp only at a0 a1; simp at o0 b0 q0 q1; have hx : rd93 st.1 t = rd_T93 st.1 (t : Int) := rfl; generalize rd_T93 st.1 (t : Int) = x at *; have t0 : (0 : Int) ≤ (t : Int) := Int.natCast_nonneg _; have t1 : (t : Int) < (T : Int) := by omega
 have HX := Lib.hid hx; have HO := Lib.hid (And.intro hco (And.intro hKo hcc)); have HL := Lib.hid hl; clear hx hco hKo hcc hn hcap hC hl; by_cases hk : x.f0 = 0
 ·have hkb : (x.f0 == 0) = true := by rw [hk]; rfl
  have HE : Hid (putR st t a = (st.1.set t a, st.2)) := Lib.hid (by unfold putR; rw [HX.out, if_pos hk])
  clear hk
  go_wp2_with ((with_reducible refine gate_ (.store 93 (.tmp 18) (.tmp 17)) rfl ?_); refine Hid.out ?_)
  refine Lib.hid ?_; obtain ⟨hco, hKo, hcc⟩ := HO.out; have hcl : co.length = 2 := k93.K_len hKo; refine Kd.R_store k93 (w0 := w0) (W := W1) w0.heap.size rfl rfl 93 (.tmp 18) (.tmp 17) rfl 93 (t : Int) 0 st.1 a (.agg #[.int .i64 a.f0, .int .i64 a.f1]) [.int .i64 a.f0, .int .i64 a.f1] co tru (fun _ => False) rfl (by show _ = (t : Int).toNat * 2 + 0; simp) rfl rfl (by kernel_rfl) (fun u hu => by
   rcases List.mem_cons.1 hu with rfl | hu
   ·rfl
   ·rw [List.mem_singleton.1 hu]; rfl) HP.out.row t0 t1 hcl (by first | exact hcc | (intro j u hj; have h := hcc j u hj; rw [add_ogR] at h; exact h)) (by show 0 + 2 ≤ 2; exact Nat.le_refl _) (by
   have e : (co.take 0 ++ [Value.int .i64 a.f0, .int .i64 a.f1] ++ co.drop (0 + 2)) = [Value.int .i64 a.f0, .int .i64 a.f1] := by rw [List.drop_eq_nil_of_le (by omega)]; rfl
   show k93.M _ _ _ _ (co.take 0 ++ [Value.int .i64 a.f0, .int .i64 a.f1] ++ co.drop (0 + 2)); rw [e]; exact k93_mkM _ _ _ _) (fun k hk => hk.elim) HP.out.below ?_
  intro ws ho hb hgr; rw [Int.toNat_natCast] at ho; have HP2 := Lib.hid (HP.out.putA ho hgr hb (by rw [List.length_set]; exact HL.out))
  clear ho hb hgr hco hKo hcc hcl
  go_wp2_with fail
  refine bodyPost_end (results_none rfl _ _ _) rfl ⟨rfl, ev, ?_⟩; rw [HE.out]; exact HP2.out
 ·have hkb : (x.f0 == 0) = false := by simpa using hk
  have HK := Lib.hid hk; clear hk; have HP2 := Lib.hid HP.out.drew; by_cases hs : sameA x a = true
  ·have hxa := sameA_true hs; subst hxa; have HE : Hid (putR st t x = st) := Lib.hid (by unfold putR; rw [HX.out, if_neg HK.out, hs]; simp)
   clear hs
   go_wp2_with fail
   refine start_ (n := 21) (S := fun w' => w'.cell? ⟨ob, 0, none⟩ = some (.slice (some ⟨og, 0, none⟩) T oc) ∧ w'.cell? ⟨og, t * 2, none⟩ = some (.int .i64 x.f0) ∧ w'.cell? ⟨og, t * 2 + 1, none⟩ = some (.int .i64 x.f1) ∧ w'.cell? ⟨b6, 0, none⟩ = some (.int .i64 x.f0) ∧ w'.cell? ⟨b6, 1, none⟩ = some (.int .i64 x.f1) ∧ w'.cell? ⟨bb, 0, none⟩ = some ev) (ds := []) #[false, false, false, false, false, false, false, false, false, false, false, false, false, false, false, false, false, false, false, false, false] (by kernel_rfl) rfl rfl ⟨o0, a0, a1, q0, q1, b0⟩ (fun hHeld => ?_)
   refine pe_ 1 (some 21) ?_ ?_ ?_ ?_ ?_; rotate_left
   ·intro w'; go_simp
    with_reducible rfl
   rotate_left
   ·simp only [nm_]; rfl
   refine te_ 0 (some 20) hHeld ?_ ?_ ?_ ?_ ?_; rotate_left
   ·rintro w' ⟨s0, s1, s2, s3, s4, s5⟩; go_simp
    with_reducible rfl
   rotate_left
   ·simp only [nm_]; rfl
   refine pe_ 2 (some 22) ?_ ?_ ?_ ?_ ?_; rotate_left
   ·intro w'; go_simp
    with_reducible rfl
   rotate_left
   ·simp only [nm_]; rfl
   refine te_ 3 (some 23) hHeld ?_ ?_ ?_ ?_ ?_; rotate_left
   ·rintro w' ⟨s0, s1, s2, s3, s4, s5⟩; go_simp
    with_reducible rfl
   rotate_left
   ·simp only [nm_]; rfl
   refine te_ 4 (some 24) hHeld ?_ ?_ ?_ ?_ ?_; rotate_left
   ·rintro w' ⟨s0, s1, s2, s3, s4, s5⟩; go_simp
    with_reducible rfl
   rotate_left
   ·simp only [nm_]; rfl
   refine pe_ 5 (some 25) ?_ ?_ ?_ ?_ ?_; rotate_left
   ·intro w'; go_simp
    with_reducible rfl
   rotate_left
   ·simp only [nm_]; rfl
   refine pe_ 6 (some 26) ?_ ?_ ?_ ?_ ?_; rotate_left
   ·intro w'; go_simp
    with_reducible rfl
   rotate_left
   ·simp only [nm_]; rfl
   refine pr_ 7 (some 27) ?_ ?_ ?_; rotate_left
   ·simp only [nm_]; rfl
   refine pr_ 8 (some 28) ?_ ?_ ?_; rotate_left
   ·simp only [nm_]; rfl
   refine pr_ 9 (some 29) ?_ ?_ ?_; rotate_left
   ·simp only [nm_]; rfl
   refine pr_ 10 (some 30) ?_ ?_ ?_; rotate_left
   ·simp only [nm_]; rfl
   refine pr_ 11 (some 31) ?_ ?_ ?_; rotate_left
   ·simp only [nm_]; rfl
   refine pr_ 12 (some 32) ?_ ?_ ?_; rotate_left
   ·simp only [nm_]; rfl
   refine pr_ 13 (some 33) ?_ ?_ ?_; rotate_left
   ·simp only [nm_]; rfl
   refine pr_ 14 (some 34) ?_ ?_ ?_; rotate_left
   ·simp only [nm_]; rfl
   refine pr_ 15 (some 35) ?_ ?_ ?_; rotate_left
   ·simp only [nm_]; rfl
   refine pr_ 16 (some 36) ?_ ?_ ?_; rotate_left
   ·simp only [nm_]; rfl
   refine pr_ 17 (some 37) ?_ ?_ ?_; rotate_left
   ·simp only [nm_]; rfl
   refine pr_ 18 (some 38) ?_ ?_ ?_; rotate_left
   ·simp only [nm_]; rfl
   refine pe_ 19 (some 39) ?_ ?_ ?_ ?_ ?_; rotate_left
   ·intro w'; go_simp
    with_reducible rfl
   rotate_left
   ·simp only [nm_]; rfl
   refine pe_ 20 (some 19) ?_ ?_ ?_ ?_ ?_; rotate_left
   ·intro w'; go_simp
    with_reducible rfl
   rotate_left
   ·simp only [nm_]; rfl
   refine done_ (by kernel_rfl) ?_
   clear hHeld
   go_wp2_with fail
   refine bodyPost_end (results_none rfl _ _ _) rfl ⟨rfl, ev, ?_⟩; rw [HE.out]; exact HP2.out
  ·have hs1 : sameA x a = false := by simpa using hs
   have hne : ∀ (α : Type) (p q : α), (if x.f0 = a.f0 then if x.f1 = a.f1 then p else q else q) = q := fun α p q => by
    unfold sameA at hs1
    split
    ·rename_i h0
     split
     ·rename_i h1
      rw [h0, h1] at hs1; simp at hs1
     ·rfl
    ·rfl
   have HB := Lib.hid HP.out.bad; obtain ⟨out, bad⟩ := st; cases bad with
   | none =>
    have hev : ev = .nilIface := HB.out; subst hev; have HE : Hid (putR (out, none) t a = (out, some t)) := Lib.hid (by unfold putR; rw [HX.out, if_neg HK.out, if_pos ⟨hs1, rfl⟩])
    clear hs hs1
    go_wp2_with fail
    refine start_ (n := 21) (S := fun w' => w'.cell? ⟨ob, 0, none⟩ = some (.slice (some ⟨og, 0, none⟩) T oc) ∧ w'.cell? ⟨og, t * 2, none⟩ = some (.int .i64 x.f0) ∧ w'.cell? ⟨og, t * 2 + 1, none⟩ = some (.int .i64 x.f1) ∧ w'.cell? ⟨b6, 0, none⟩ = some (.int .i64 a.f0) ∧ w'.cell? ⟨b6, 1, none⟩ = some (.int .i64 a.f1) ∧ w'.cell? ⟨bb, 0, none⟩ = some .nilIface) (ds := []) #[false, false, false, false, false, false, false, false, false, false, false, false, false, false, false, false, false, false, false, false, false] (by kernel_rfl) rfl rfl ⟨o0, a0, a1, q0, q1, b0⟩ (fun hHeld => ?_)
    refine pe_ 1 (some 21) ?_ ?_ ?_ ?_ ?_; rotate_left
    ·intro w'; go_simp
     with_reducible rfl
    rotate_left
    ·simp only [nm_]; rfl
    refine te_ 0 (some 20) hHeld ?_ ?_ ?_ ?_ ?_; rotate_left
    ·rintro w' ⟨s0, s1, s2, s3, s4, s5⟩; go_simp
     with_reducible rfl
    rotate_left
    ·simp only [nm_]; rfl
    refine pe_ 2 (some 22) ?_ ?_ ?_ ?_ ?_; rotate_left
    ·intro w'; go_simp
     with_reducible rfl
    rotate_left
    ·simp only [nm_]; rfl
    refine te_ 3 (some 23) hHeld ?_ ?_ ?_ ?_ ?_; rotate_left
    ·rintro w' ⟨s0, s1, s2, s3, s4, s5⟩; go_simp
     with_reducible rfl
    rotate_left
    ·simp only [nm_]; rfl
    refine te_ 4 (some 24) hHeld ?_ ?_ ?_ ?_ ?_; rotate_left
    ·rintro w' ⟨s0, s1, s2, s3, s4, s5⟩; go_simp
     with_reducible rfl
    rotate_left
    ·simp only [nm_]; rfl
    refine pe_ 5 (some 25) ?_ ?_ ?_ ?_ ?_; rotate_left
    ·intro w'; go_simp
     with_reducible rfl
    rotate_left
    ·simp only [nm_]; rfl
    refine pe_ 6 (some 26) ?_ ?_ ?_ ?_ ?_; rotate_left
    ·intro w'; go_simp
     with_reducible rfl
    rotate_left
    ·simp only [nm_]; rfl
    refine pe_ 8 (some 28) ?_ ?_ ?_ ?_ ?_; rotate_left
    ·intro w'; go_simp
     with_reducible rfl
    rotate_left
    ·simp only [nm_]; rfl
    refine te_ 7 (some 27) hHeld ?_ ?_ ?_ ?_ ?_; rotate_left
    ·rintro w' ⟨s0, s1, s2, s3, s4, s5⟩; go_simp
     with_reducible rfl
    rotate_left
    ·simp only [nm_]; rfl
    refine ou_ (i := 9) (N := some 29) rfl rfl (by kernel_rfl) (by decide) (fun K hK => ?_)
    refine goes_ Tryd.func33 (by kernel_rfl) rfl #[.nilIface, .iface 123 (.pointer (some ⟨b7, 0, none⟩))] (by rfl) rfl rfl (by simp only [List.map_toArray, List.map_cons, List.map_nil]; rfl) ?_
    with_reducible refine (ErrsC.as_nil _ _).mono ?_
    rintro e V ⟨rfl, rfl⟩; refine ⟨_, rfl, ?_⟩; refine hK.out _ _ ⟨o0, a0, a1, q0, q1, b0⟩ (fun hHeld => ?_)
    clear hK K; refine norm_ (a' := ?_) ?_ ?_; rotate_left
    ·show Act.put _ (some 29) _ = _; simp only [nm_]; rfl
    refine pe_ 10 (some 30) ?_ ?_ ?_ ?_ ?_; rotate_left
    ·intro w'; go_simp
     with_reducible rfl
    rotate_left
    ·simp only [nm_]; rfl
    refine pe_ 11 (some 31) ?_ ?_ ?_ ?_ ?_; rotate_left
    ·intro w'; go_simp
     with_reducible rfl
    rotate_left
    ·simp only [nm_]; rfl
    refine pr_ 12 (some 32) ?_ ?_ ?_; rotate_left
    ·simp only [nm_]; rfl
    refine pr_ 13 (some 33) ?_ ?_ ?_; rotate_left
    ·simp only [nm_]; rfl
    refine pr_ 14 (some 34) ?_ ?_ ?_; rotate_left
    ·simp only [nm_]; rfl
    refine pr_ 15 (some 35) ?_ ?_ ?_; rotate_left
    ·simp only [nm_]; rfl
    refine pr_ 16 (some 36) ?_ ?_ ?_; rotate_left
    ·simp only [nm_]; rfl
    refine pr_ 17 (some 37) ?_ ?_ ?_; rotate_left
    ·simp only [nm_]; rfl
    refine pe_ 18 (some 38) ?_ ?_ ?_ ?_ ?_; rotate_left
    ·intro w'; go_simp
     with_reducible rfl
    rotate_left
    ·simp only [nm_]; rfl
    refine pe_ 19 (some 39) ?_ ?_ ?_ ?_ ?_; rotate_left
    ·intro w'; go_simp
     with_reducible rfl
    rotate_left
    ·simp only [nm_]; rfl
    refine pe_ 20 (some 19) ?_ ?_ ?_ ?_ ?_; rotate_left
    ·intro w'; go_simp
     with_reducible rfl
    rotate_left
    ·simp only [nm_]; rfl
    refine done_ (by kernel_rfl) ?_
    clear hHeld; have s1 := zaa HP2.out.hs 0; simp at s1
    go_wp2_with ((with_reducible refine gate_ (.store 27 (.tmp 3) (.tmp 44)) rfl ?_); refine Hid.out ?_)
    refine Lib.hid ?_; have HPA : Hid (Pr w0 (W1.alloc (.cells #[.int .i64 (state : Int), .int .i64 (t : Int)] 125)).drew ob og bb sb T oc state _ (out, _)) := Lib.hid ((HP.out.alloc (.cells #[.int .i64 (state : Int), .int .i64 (t : Int)] 125)).drew); have HEA : Hid ((W1.alloc (.cells #[.int .i64 (state : Int), .int .i64 (t : Int)] 125)).drew.heap[W1.heap.size]? = some (.cells #[.int .i64 (state : Int), .int .i64 (t : Int)] 125 (0, 0))) := Lib.hid (zah <| zau W1 _); have hgn : w0.heap.size ≤ W1.heap.size := HP.out.below.size; clear s1; generalize (W1.alloc (.cells #[.int .i64 (state : Int), .int .i64 (t : Int)] 125)).drew = W2 at *; generalize W1.heap.size = en at *; have b1 := zaa HPA.out.hb 0; have b1f := zae HPA.out.hb 0; simp at b1; have HP3 := Lib.hid (HPA.out.setBad (ev1 := .iface 122 (.pointer (some ⟨en, 0, none⟩))) (b1 := some t) ⟨en, hgn, rfl, HEA.out⟩)
    go_wp2_with fail
    refine bodyPost_end (results_none rfl _ _ _) rfl ⟨rfl, .iface 122 (.pointer (some ⟨en, 0, none⟩)), ?_⟩; rw [HE.out]; exact HP3.out
   | some c =>
    obtain ⟨eb, hge, rfl, he⟩ := HB.out; have HEB := Lib.hid he; have HGE := Lib.hid hge; have HAS := Lib.hid (as_hitC eb b7 W1.drew (HG.out.below (zaw (Below.refl _ _))) (zah HC.out)); clear hs he hge HB; have HE : Hid (putR (out, some c) t a = (out, if decide (t < c) = true then some t else some c)) := Lib.hid (by
     unfold putR; rw [HX.out, if_neg HK.out]; by_cases h : t < c
     ·rw [if_pos ⟨hs1, decide_eq_true h⟩, if_pos (decide_eq_true h)]
     ·rw [if_neg, if_neg (by simpa using h)]
      rintro ⟨_, h2⟩; exact h (of_decide_eq_true h2))
    generalize htb : decide (t < c) = bl at *; clear hs1
    go_wp2_with fail
    refine start_ (n := 21) (S := fun w' => w'.cell? ⟨ob, 0, none⟩ = some (.slice (some ⟨og, 0, none⟩) T oc) ∧ w'.cell? ⟨og, t * 2, none⟩ = some (.int .i64 x.f0) ∧ w'.cell? ⟨og, t * 2 + 1, none⟩ = some (.int .i64 x.f1) ∧ w'.cell? ⟨b6, 0, none⟩ = some (.int .i64 a.f0) ∧ w'.cell? ⟨b6, 1, none⟩ = some (.int .i64 a.f1) ∧ w'.cell? ⟨bb, 0, none⟩ = some (.iface 122 (.pointer (some ⟨eb, 0, none⟩)))) (ds := [9, 13, 16]) #[false, false, false, false, false, false, false, false, false, false, false, false, false, false, false, false, false, false, false, false, false] (by kernel_rfl) rfl rfl ⟨o0, a0, a1, q0, q1, b0⟩ (fun hHeld => ?_)
    refine pe_ 1 (some 21) ?_ ?_ ?_ ?_ ?_; rotate_left
    ·intro w'; go_simp
     with_reducible rfl
    rotate_left
    ·simp only [nm_]; rfl
    refine te_ 0 (some 20) hHeld ?_ ?_ ?_ ?_ ?_; rotate_left
    ·rintro w' ⟨s0, s1, s2, s3, s4, s5⟩; go_simp
     with_reducible rfl
    rotate_left
    ·simp only [nm_]; rfl
    refine pe_ 2 (some 22) ?_ ?_ ?_ ?_ ?_; rotate_left
    ·intro w'; go_simp
     with_reducible rfl
    rotate_left
    ·simp only [nm_]; rfl
    refine te_ 3 (some 23) hHeld ?_ ?_ ?_ ?_ ?_; rotate_left
    ·rintro w' ⟨s0, s1, s2, s3, s4, s5⟩; go_simp
     with_reducible rfl
    rotate_left
    ·simp only [nm_]; rfl
    refine te_ 4 (some 24) hHeld ?_ ?_ ?_ ?_ ?_; rotate_left
    ·rintro w' ⟨s0, s1, s2, s3, s4, s5⟩; go_simp
     with_reducible rfl
    rotate_left
    ·simp only [nm_]; rfl
    refine pe_ 5 (some 25) ?_ ?_ ?_ ?_ ?_; rotate_left
    ·intro w'; go_simp
     with_reducible rfl
    rotate_left
    ·simp only [nm_]; rfl
    refine pe_ 6 (some 26) ?_ ?_ ?_ ?_ ?_; rotate_left
    ·intro w'; go_simp
     with_reducible rfl
    rotate_left
    ·simp only [nm_]; rfl
    refine pe_ 8 (some 28) ?_ ?_ ?_ ?_ ?_; rotate_left
    ·intro w'; go_simp
     with_reducible rfl
    rotate_left
    ·simp only [nm_]; rfl
    refine te_ 7 (some 27) hHeld ?_ ?_ ?_ ?_ ?_; rotate_left
    ·rintro w' ⟨s0, s1, s2, s3, s4, s5⟩; go_simp
     with_reducible rfl
    rotate_left
    ·simp only [nm_]; rfl
    refine lu_ (i := 9) (N := some 29) rfl rfl (by kernel_rfl) (by decide) (fun K hK => ?_)
    refine goes_ Tryd.func33 (by kernel_rfl) rfl #[.iface 122 (.pointer (some ⟨eb, 0, none⟩)), .iface 123 (.pointer (some ⟨b7, 0, none⟩))] (by rfl) rfl rfl (by simp only [List.map_toArray, List.map_cons, List.map_nil]; rfl) ?_
    with_reducible refine (HAS.out).mono ?_
    rintro e V ⟨rfl, hv7, hvk, hvb⟩; refine ⟨_, rfl, ?_⟩; have HPV := Lib.hid (HP2.out.keep (zah HC.out) hvk (hvb HP2.out.below hge7 HP2.out.below.size)); have c7 := zaa hv7 0; have e1 := zaa (hvk.blk (zah HEB.out) (blk_ne (zah HEB.out) (zah HC.out) (by decide)) (by simp)) 1
    simp at c7 e1; clear hv7 hvk hvb; refine hK.out _ _ ?_; clear hK K; refine norm_ (a' := ?_) ?_ ?_; rotate_left
    ·show Act.put _ (some 29) _ = _; simp only [nm_]; rfl
    refine pe_ 10 (some 30) ?_ ?_ ?_ ?_ ?_; rotate_left
    ·intro w'; go_simp
     with_reducible rfl
    rotate_left
    ·simp only [nm_]; rfl
    refine pe_ 11 (some 31) ?_ ?_ ?_ ?_ ?_; rotate_left
    ·intro w'; go_simp
     with_reducible rfl
    rotate_left
    ·simp only [nm_]; rfl
    refine pe_ 12 (some 32) ?_ ?_ ?_ ?_ ?_; rotate_left
    ·intro w'; go_simp
     with_reducible rfl
    rotate_left
    ·simp only [nm_]; rfl
    refine lu_ (i := 13) (N := some 33) rfl rfl (by kernel_rfl) (by decide) (fun K hK => ?_)
    refine value_ (w1 := ?_) (v := ?_) (by rfl) rfl ?_ ?_
    rotate_left 2
    ·go_simp; constructor
     ·rfl
     ·rfl
    refine hK.out _ _ ?_; clear hK K; refine norm_ (a' := ?_) ?_ ?_; rotate_left
    ·show Act.put _ (some 33) _ = _; simp only [nm_]; rfl
    refine pe_ 14 (some 34) ?_ ?_ ?_ ?_ ?_; rotate_left
    ·intro w'; go_simp
     with_reducible rfl
    rotate_left
    ·simp only [nm_]; rfl
    refine pe_ 15 (some 35) ?_ ?_ ?_ ?_ ?_; rotate_left
    ·intro w'; go_simp
     with_reducible rfl
    rotate_left
    ·simp only [nm_]; rfl
    refine lu_ (i := 16) (N := some 36) rfl rfl (by kernel_rfl) (by decide) (fun K hK => ?_)
    refine value_ (w1 := ?_) (v := ?_) (by rfl) rfl ?_ ?_
    rotate_left 2
    ·go_simp; constructor
     ·rfl
     ·rfl
    refine hK.out _ _ ?_; clear hK K; refine norm_ (a' := ?_) ?_ ?_; rotate_left
    ·show Act.put _ (some 36) _ = _; simp only [nm_]; rfl
    refine pe_ 17 (some 37) ?_ ?_ ?_ ?_ ?_; rotate_left
    ·intro w'; go_simp
     with_reducible rfl
    rotate_left
    ·simp only [nm_]; rfl
    refine pe_ 18 (some 38) ?_ ?_ ?_ ?_ ?_; rotate_left
    ·intro w'; go_simp
     with_reducible rfl
    rotate_left
    ·simp only [nm_]; rfl
    refine pe_ 19 (some 39) ?_ ?_ ?_ ?_ ?_; rotate_left
    ·intro w'; go_simp
     with_reducible rfl
    rotate_left
    ·simp only [nm_]; rfl
    refine pe_ 20 (some 19) ?_ ?_ ?_ ?_ ?_; rotate_left
    ·intro w'; go_simp
     with_reducible rfl
    rotate_left
    ·simp only [nm_]; rfl
    refine done_ (by kernel_rfl) ?_
    clear hHeld htb; cases bl with
    | true =>
     have s1 := zaa HPV.out.hs 0; simp at s1
     go_wp2_with ((with_reducible refine gate_ (.store 27 (.tmp 3) (.tmp 44)) rfl ?_); refine Hid.out ?_)
     refine Lib.hid ?_; have HPA : Hid (Pr w0 (V.alloc (.cells #[.int .i64 (state : Int), .int .i64 (t : Int)] 125)) ob og bb sb T oc state _ (out, _)) := Lib.hid (HPV.out.alloc (.cells #[.int .i64 (state : Int), .int .i64 (t : Int)] 125)); have HEA : Hid ((V.alloc (.cells #[.int .i64 (state : Int), .int .i64 (t : Int)] 125)).heap[V.heap.size]? = some (.cells #[.int .i64 (state : Int), .int .i64 (t : Int)] 125 (0, 0))) := Lib.hid (zau V _); have hgn : w0.heap.size ≤ V.heap.size := HPV.out.below.size; clear s1; generalize (V.alloc (.cells #[.int .i64 (state : Int), .int .i64 (t : Int)] 125)) = W2 at *; generalize V.heap.size = en at *; have b1 := zaa HPA.out.hb 0; have b1f := zae HPA.out.hb 0; simp at b1; have HP3 := Lib.hid (HPA.out.setBad (ev1 := .iface 122 (.pointer (some ⟨en, 0, none⟩))) (b1 := some t) ⟨en, hgn, rfl, HEA.out⟩)
     go_wp2_with fail
     refine bodyPost_end (results_none rfl _ _ _) rfl ⟨rfl, .iface 122 (.pointer (some ⟨en, 0, none⟩)), ?_⟩; rw [HE.out]; exact HP3.out
    | false =>
     go_wp2_with fail
     refine bodyPost_end (results_none rfl _ _ _) rfl ⟨rfl, .iface 122 (.pointer (some ⟨eb, 0, none⟩)), ?_⟩; rw [HE.out]; exact HPV.out
abbrev kInt : Kd Int := Kd.int .i64
theorem at_Int {W : World} {A : Option Addr} {n : Nat} {xs : List Int} (h : kInt.C W A n xs) {i : Nat} (hi : i < n) : ∃ ad, A = some ad ∧ W.cell? (ad.add i) = some (.int .i64 (xs.getD i 0)) := by
 obtain ⟨ad, c, e, _, hK, hc⟩ := Kd.C_get h 0 (i : Int) (Int.natCast_nonneg _) (by omega)
 rw [Int.toNat_natCast] at hK hc; refine ⟨ad, e, ?_⟩; have hK' : c = [Value.int .i64 (xs.getD i 0)] := hK; subst hK'; have := hc 0 _ rfl
 rwa [show i * kInt.sz + 0 = i by simp [kInt, Kd.int, Kd.scalar]] at this
theorem R_atR {α : Type} {d : Kd α} {e : Nat} {W : World} {base : Nat} {okp : Nat → Prop} {v : Value} {xs : List α} (h : d.R e W base okp v xs) {b : Nat} (hb : v.ownBlock = some b) : ∃ cap, v = .slice (some ⟨b, 0, none⟩) xs.length cap := by
 obtain ⟨h0, inner, ⟨hl, hor⟩, hr⟩ := h; rcases hor with ⟨rfl, _⟩ | ⟨g, cap, cells, rfl, _⟩
 ·simp [Value.ownBlock] at hb
 ·simp [Value.ownBlock] at hb; subst hb; exact ⟨cap, rfl⟩
theorem info93 : (Tryd.prog.info? 93).map (fun i => (i.zero, i.size, i.bytes)) = some (some (.agg #[.int .i64 0, .int .i64 0]), 2, 16) := by kernel_rfl
theorem foldl_range_succ {β : Type} (f : β → Nat → β) (b : β) (i : Nat) : (List.range (i + 1)).foldl f b = f ((List.range i).foldl f b) i := by
 rw [List.range_succ, List.foldl_append]; rfl
theorem foldl_take_succ {α β : Type} (f : β → α → β) (b : β) {l : List α} {i : Nat} {x : α} (h : l[i]? = some x) : (l.take (i + 1)).foldl f b = f ((l.take i).foldl f b) x := by
 obtain ⟨hi, he⟩ := List.getElem?_eq_some_iff.1 h; rw [List.take_succ_eq_append_getElem hi, List.foldl_append, he]; rfl
def rsInit (T : Nat) : RS := (List.replicate T ⟨0, 0⟩, none)
def RetRow (w : World) (T state : Nat) (rs : RS) (e : Ending) (w' : World) : Prop := Below w.heap.size w w' ∧ ∃ og oc ev, e = .returned (.tuple #[.slice (some ⟨og, 0, none⟩) T oc, ev]) ∧ k93.R 93 w' w.heap.size tru (.slice (some ⟨og, 0, none⟩) T oc) rs.1 ∧ Bad w' w.heap.size state rs.2 ev
theorem Bad.lower {W : World} {b b' state : Nat} {o : Option Nat} {ev : Value} (h : Bad W b state o ev) (hb : b' ≤ b) : Bad W b' state o ev := by
 cases o with
 | none => exact h
 | some c =>
  obtain ⟨e, h1, h2, h3⟩ := h; exact ⟨e, Nat.le_trans hb h1, h2, h3⟩
set_option maxRecDepth 100000 in
set_option maxHeartbeats 4000000 in
theorem row_any (A : Option Addr) (c : Nat) (l : List S112) (B : Option Addr) (d : Nat) (m : List S115) (C : Option Addr) (e : Nat) (ps : List S77) (w : World) (hg : GR w A c l B d m C e ps) (h64 : l.length ≤ 64) (hpl : ∀ p ∈ ps, p.f1.length ≤ 1048576) (state : Nat) (Ai : Option Addr) (ci : Nat) (set : List S178) (hs : k178.C w Ai set.length set) (hsl : set.length ≤ 1099511627776) (hfi : FitI l.length ps set) (Ag : Option Addr) (cg : Nat) (goes : List Int) (hgo : kInt.C w Ag goes.length goes) (hgl : l.length ≤ goes.length) (het : Dec.ErrType w) :
  Calls Tryd.prog 41 #[.agg #[.slice A l.length c, .slice B m.length d, .slice C ps.length e], .int .i64 (state : Int), .slice Ai set.length ci, .slice Ag goes.length cg] w (RetRow w l.length state (rowS l.length ps set goes)) := by
 have hb0 := zac (zac (Below.refl w.heap.size w) (.cells #[.slice A l.length c, .slice B m.length d, .slice C ps.length e] 51)) (.cells #[.int .i64 (state : Int)] 3); have HB0 := Lib.hid hb0; have HG := Lib.hid (hg.below hb0); have HS := Lib.hid (Kd.zav hs hb0); have HGO := Lib.hid (Kd.zav hgo hb0); have HET := Lib.hid (het.below hb0); have HX := Lib.hid (zad (zau w (.cells #[.slice A l.length c, .slice B m.length d, .slice C ps.length e] 51)) (.cells #[.int .i64 (state : Int)] 3)); have hsb := zau (w.alloc (.cells #[.slice A l.length c, .slice B m.length d, .slice C ps.length e] 51)) (.cells #[.int .i64 (state : Int)] 3); rw [szA] at hsb; have HSB := Lib.hid hsb; have HFI := Lib.hid hfi; have HPL := Lib.hid hpl; clear hb0 hg hs hgo het hsb hfi hpl
 go_enter Tryd.func41, Tryd.ntmps41
 go_wp2_with ((with_reducible refine gate_ (.fieldAddr 51 (.tmp 4) 0) rfl ?_); refine Hid.out ?_)
 refine Lib.hid ?_; generalize (w.alloc (.cells #[.slice A l.length c, .slice B m.length d, .slice C ps.length e] 51)).alloc (.cells #[.int .i64 (state : Int)] 3) = w2 at *; generalize w.heap.size + 1 = sb at *; generalize hbg : w.heap.size = bG at *; have x0 := zaa HX.out 0; simp at x0
 go_wp2_with ((with_reducible refine gate_ (.makeSlice 90 (.tmp 18) (.tmp 18)) rfl ?_); refine Hid.out ?_)
 refine Lib.hid ?_; refine Kd.R_make k93 (w0 := w2) (W := w2) w2.heap.size 93 rfl rfl 90 (.tmp 18) (.tmp 18) rfl (l.length : Int) rfl rfl Tryd.underlying90 (.agg #[.int .i64 0, .int .i64 0]) 16 info93 rfl (by decide) (by decide) ⟨0, 0⟩ (ok := tru) (okp := fun _ => False) (k93_mkM _ _ _ ⟨0, 0⟩) (fun _ h => h.elim) trivial (Int.natCast_nonneg _) (by rw [Int.toNat_natCast]; omega) (Below.refl _ _) (Nat.le_refl _) ?_
 intro v1 w3 ho3 hb3 hg3 hat3; rw [Int.toNat_natCast] at ho3; obtain ⟨og, hog, _⟩ := hat3; obtain ⟨oc, rfl⟩ := R_atR ho3 hog; rw [List.length_replicate] at ho3; rw [List.length_replicate]; have HP0 : Hid (Pr w2 ((w3.alloc (.cells #[.slice (some ⟨og, 0, none⟩) l.length oc] 90)).alloc (.cells #[.nilIface] 27)) w3.heap.size og (w3.heap.size + 1) sb l.length oc state .nilIface (rsInit l.length)) := Lib.hid (by
  have h1 := zad (zau w3 (.cells #[.slice (some ⟨og, 0, none⟩) l.length oc] 90)) (.cells #[.nilIface] 27); have h2 := zau (w3.alloc (.cells #[.slice (some ⟨og, 0, none⟩) l.length oc] 90)) (.cells #[.nilIface] 27); rw [szA] at h2; exact ⟨zac (zac hb3 _) _, h1, Kd.zbk (Kd.zbk ho3 _) _, h2, rfl, zad (zad (zak HSB.out hb3) _) _, ⟨hb3.size, by have := hb3.size; omega⟩, List.length_replicate⟩)
 clear ho3 hb3 hg3 hog x0; have hmf : ∀ (fn : Fn) (first cap : Array Value) (w : World), (Instr.makeFunc fn first cap).run Tryd.prog w = .ok (.func fn first cap) w := fun _ _ _ _ => rfl
 go_wp2_with ((with_reducible refine gate_ (.makeFunc (.func 69) #[] #[.tmp 10, .tmp 11, .tmp 5]) rfl ?_); refine Hid.out ?_)
 refine Lib.hid ?_; generalize ((w3.alloc (.cells #[.slice (some ⟨og, 0, none⟩) l.length oc] 90)).alloc (.cells #[.nilIface] 27)) = W0 at *; generalize w3.heap.size + 1 = bb at *; generalize w3.heap.size = ob at *; have o0 := zaa HP0.out.ho 0; simp at o0
 go_wp2_with fail
 clear hmf
 go_loopw [23] (fun v w' => ∃ (i : Nat) (ev : Value), v = .int .i64 (i : Int) ∧ i ≤ l.length ∧ Hid (Pr w2 w' ob og bb sb l.length oc state ev ((List.range i).foldl (shiftR goes) (rsInit l.length)))) (fun v _ => l.length - (intOf v).toNat)
 case atStart => exact ⟨0, _, rfl, Nat.zero_le _, HP0⟩
 case round =>
  clear HP0 o0; obtain ⟨i, ev, rfl, hi, HP⟩ := hrel; by_cases hil : i < l.length
  ·obtain ⟨ad, rfl, g0⟩ := at_Int (Kd.zav HGO.out HP.out.below) (i := i) (by omega)
   have hib : decide ((i : Int) < (l.length : Int)) = true := decide_eq_true (by omega)
   have hi0 : (0 : Int) ≤ (i : Int) := Int.natCast_nonneg _; have hi1 : (i : Int) < (goes.length : Int) := by omega
   have hiw : IntKind.i64.wrap ((i : Int) + 1) = (i : Int) + 1 := IntWalk.i64_in _ (by omega)
   have hi2 : i + 1 ≤ l.length := hil; have hme : l.length - (i + 1) < l.length - i := by omega
   have HFO := Lib.hid (foldl_range_succ (shiftR goes) (rsInit l.length) i); generalize hst : (List.range i).foldl (shiftR goes) (rsInit l.length) = st at *; have HSH : Hid (shiftR goes st i = if 0 ≤ goes.getD i 0 then putR st i ⟨1, goes.getD i 0⟩ else st) := Lib.hid rfl
   generalize goes.getD i 0 = y at *; clear hst; by_cases hy : 0 ≤ y
   ·have hyb : decide (y ≥ 0) = true := decide_eq_true hy; have HE : Hid (shiftR goes st i = putR st i ⟨1, y⟩) := Lib.hid (by rw [HSH.out, if_pos hy])
    clear hy
    go_wp2_with (go_at_call 69; refine (putR_any w2 ob og bb sb l.length oc state ev st wr i ⟨1, y⟩ HP.out hil h64 (HET.out.below HP.out.below)).mono ?_; rintro e4 w4 ⟨rfl, ev4, hp4⟩; refine Hid.out ?_)
    refine Lib.hid ?_; have HP4 := Lib.hid hp4; clear hp4 HP g0
    go_wp2_with fail
    go_roundw
    case rel => exact ⟨i + 1, ev4, by rw [Int.natCast_add]; rfl, hi2, by rw [HFO.out, HE.out]; exact HP4⟩
    case measure => exact hme
   ·have hyb : decide (y ≥ 0) = false := decide_eq_false hy; have HE : Hid (shiftR goes st i = st) := Lib.hid (by rw [HSH.out, if_neg hy])
    clear hy
    go_wp2_with fail
    go_roundw
    case rel => exact ⟨i + 1, ev, by rw [Int.natCast_add]; rfl, hi2, by rw [HFO.out, HE.out]; exact HP⟩
    case measure => exact hme
  ·have hil2 : i = l.length := by omega
   subst hil2; have hib : decide (((l.length : Nat) : Int) < (l.length : Int)) = false := decide_eq_false (by omega)
   generalize hst : (List.range l.length).foldl (shiftR goes) (rsInit l.length) = st1 at *; have HST := Lib.hid hst; clear hst
   go_wp2_with fail
   go_loopw [42] (fun v w' => ∃ (i : Nat) (ev : Value), v = .int .i64 (i : Int) ∧ i ≤ set.length ∧ Hid (Pr w2 w' ob og bb sb l.length oc state ev ((set.take i).foldl (itemR ps) st1))) (fun v _ => set.length - (intOf v).toNat)
   case atStart => exact ⟨0, _, rfl, Nat.zero_le _, HP⟩
   case round =>
    clear HP; obtain ⟨i, ev, rfl, hi, HP⟩ := hrel; by_cases hix : i < set.length
    ·obtain ⟨x, hx⟩ : ∃ x, set[i]? = some x := ⟨_, List.getElem?_eq_getElem hix⟩; have hfx := HFI.out x (List.mem_of_getElem? hx); have HFO := Lib.hid (foldl_take_succ (itemR ps) st1 hx); have hrx : zaq set (i : Int) = x := by
      unfold zaq; rw [Int.toNat_natCast, List.getD_eq_getElem?_getD, hx]; rfl
     obtain ⟨adx, rfl, x0, x1, x2⟩ := at_T178 (Kd.zav HS.out HP.out.below) (i : Int) (Int.natCast_nonneg _) (by omega)
     rw [hrx, Int.toNat_natCast] at x0 x1 x2; have hib : decide ((i : Int) < (set.length : Int)) = true := decide_eq_true (by omega)
     have hi0 : (0 : Int) ≤ (i : Int) := Int.natCast_nonneg _; have hi1 : (i : Int) < (set.length : Int) := by omega
     have hiw : IntKind.i64.wrap ((i : Int) + 1) = (i : Int) + 1 := IntWalk.i64_in _ (by omega)
     have hi2 : i + 1 ≤ set.length := hix; have hme : set.length - (i + 1) < set.length - i := by omega
     obtain ⟨xp, xd, xl⟩ := x; obtain ⟨hp0, hp1, hl0, hl1⟩ := hfx; simp only at x0 x1 x2 hp0 hp1 hl0 hl1; generalize hst : (set.take i).foldl (itemR ps) st1 = st at *; clear hx hrx hst
     go_wp2_with fail
     have HP1 := Lib.hid (HP.out.alloc (.cells #[.int .i64 xp, .int .i64 xd, .int .i64 xl] 178)); have hxb := zau wr (.cells #[.int .i64 xp, .int .i64 xd, .int .i64 xl] 178); generalize wr.alloc (.cells #[.int .i64 xp, .int .i64 xd, .int .i64 xl] 178) = W1 at *; generalize wr.heap.size = bx at *; have y0 := zaa hxb 0; have y1 := zaa hxb 1; have y2 := zaa hxb 2; have z2 := zaa (zak HX.out HP1.out.below) 2; simp at y0 y1 y2 z2; obtain ⟨adp, A1, c1, rfl, p0, p1, -, -⟩ := at_T77 (Kd.zav HG.out.hC HP1.out.below) xp hp0 hp1; have HLT0 : Hid (itemR ps st ⟨xp, xd, xl⟩ = if xd < ((zal ps xp).f1.length : Int) then st else if xp = 0 then putR st xl.toNat ⟨3, 0⟩ else putR st xl.toNat ⟨2, xp⟩) := Lib.hid rfl
     have hpm : (zal ps xp).f1.length ≤ 1048576 := by
      obtain ⟨pn, rfl⟩ := Int.eq_ofNat_of_zero_le hp0; exact HPL.out _ (rd77_mem (by omega))
     generalize (zal ps xp).f1.length = rn at *; obtain ⟨ln, rfl⟩ := Int.eq_ofNat_of_zero_le hl0; have hln : ln < l.length := by omega
     clear x0 x1 x2 HP hxb; by_cases hlt : xd < (rn : Int)
     ·have hlb : decide (xd < (rn : Int)) = true := decide_eq_true hlt; have HE : Hid (itemR ps st ⟨xp, xd, (ln : Int)⟩ = st) := Lib.hid (by rw [HLT0.out, if_pos hlt])
      go_quiet (fail)
      go_wp2_with fail
      go_roundw
      case rel => exact ⟨i + 1, ev, by rw [Int.natCast_add]; rfl, hi2, by rw [HFO.out, HE.out]; exact HP1.out.drewN nq⟩
      case measure => exact hme
     ·have hlb : decide (xd < (rn : Int)) = false := decide_eq_false hlt; by_cases hz : xp = 0
      ·have HZB : Hid ((xp == 0) = true) := Lib.hid (by rw [hz]; rfl)
       have HE : Hid (itemR ps st ⟨xp, xd, (ln : Int)⟩ = putR st ln ⟨3, 0⟩) := Lib.hid (by rw [HLT0.out, if_neg hlt, if_pos hz, Int.toNat_natCast])
       clear hz
       go_quiet (fail)
       have hzb := HZB.out
       go_wp2_with (go_at_call 69; refine Hid.out ?_)
       refine Lib.hid ?_; refine (putR_any w2 ob og bb sb l.length oc state ev st _ ln ⟨3, 0⟩ (HP1.out.drewN nq) hln h64 (HET.out.below (HP1.out.drewN nq).below)).mono ?_; rintro e4 w4 ⟨rfl, ev4, hp4⟩; have HP4 := Lib.hid hp4; clear hp4 HP1
       go_wp2_with fail
       go_roundw
       case rel => exact ⟨i + 1, ev4, by rw [Int.natCast_add]; rfl, hi2, by rw [HFO.out, HE.out]; exact HP4⟩
       case measure => exact hme
      ·have hzb : (xp == 0) = false := by simpa using hz
       have HE : Hid (itemR ps st ⟨xp, xd, (ln : Int)⟩ = putR st ln ⟨2, xp⟩) := Lib.hid (by rw [HLT0.out, if_neg hlt, if_neg hz, Int.toNat_natCast])
       go_quiet (fail)
       go_wp2_with (go_at_call 69; refine Hid.out ?_)
       refine Lib.hid ?_; refine (putR_any w2 ob og bb sb l.length oc state ev st _ ln ⟨2, xp⟩ (HP1.out.drewN nq) hln h64 (HET.out.below (HP1.out.drewN nq).below)).mono ?_; rintro e4 w4 ⟨rfl, ev4, hp4⟩; have HP4 := Lib.hid hp4; clear hp4 HP1
       go_wp2_with fail
       go_roundw
       case rel => exact ⟨i + 1, ev4, by rw [Int.natCast_add]; rfl, hi2, by rw [HFO.out, HE.out]; exact HP4⟩
       case measure => exact hme
    ·have hib : decide ((i : Int) < (set.length : Int)) = false := decide_eq_false (by omega)
     have HRW : Hid ((set.take i).foldl (itemR ps) st1 = rowS l.length ps set goes) := Lib.hid (by
      rw [List.take_of_length_le (by omega), ← HST.out]
      rfl)
     rw [HRW.out] at HP; have o0 := zaa HP.out.ho 0; have b0 := zaa HP.out.hb 0; simp at o0 b0
     go_wp2_with fail
     go_quiet (fail)
     go_wp2_with fail
     have HBW := Lib.hid (zam (w := w) (by rw [hbg]; exact HB0.out) HP.out.below)
     go_ret2
     have HPN := HP.out.drewN nq; have hle : w.heap.size ≤ w2.heap.size := HB0.out.size; exact ⟨zab HBW.out nq, og, oc, ev, rfl, Kd.R_lower HPN.row hle, HPN.bad.lower hle⟩
def itemOf (sp : List S230) (i b : Nat) : S178 := ⟨(rdSp sp i).f0, (rdSp sp i).f1, b⟩
def zbl (sp : List S230) (s : List Nat) (n : Nat) : List S178 := (List.range n).flatMap fun i => (bitsOf (fst s i)).map (itemOf sp i)
theorem listN_succ (sp : List S230) (s : List Nat) (n : Nat) : zbl sp s (n + 1) = zbl sp s n ++ (bitsOf (fst s n)).map (itemOf sp n) := by
 unfold zbl; rw [List.range_succ, List.flatMap_append]; simp
theorem listN_len (sp : List S230) (s : List Nat) : ∀ n, (zbl sp s n).length ≤ 64 * n
 | 0 => Nat.le_refl _
 | n + 1 => by
  have := listN_len sp s n; have := bitsOf_len (fst s n); rw [listN_succ, List.length_append, List.length_map]; omega
theorem and127 (z : Int) : 0 ≤ bits .and .i64 z 127 ∧ bits .and .i64 z 127 ≤ 127 := by
 have h : bits .and .i64 z 127 = IntKind.i64.wrap (((BitVec.ofInt 64 z &&& BitVec.ofInt 64 127).toNat : Nat) : Int) := rfl; have h1 : (BitVec.ofInt 64 z &&& BitVec.ofInt 64 127).toNat ≤ 127 := by
  rw [BitVec.toNat_and]; exact Nat.and_le_right
 rw [h, IntWalk.i64_in _ (by omega)]
 omega
theorem ones_ret (Z : Int) {w w' : World} (h : Drawn0 w w') : ∃ r : Nat, Ending.returned (.int .i64 (bits .and .i64 Z 127)) = Ending.returned (.int .i64 (r : Int)) ∧ r ≤ 127 ∧ Drawn0 w w' := ⟨(bits .and .i64 Z 127).toNat, congrArg (fun n => Ending.returned (.int .i64 n)) (Int.toNat_of_nonneg (and127 _).1).symm, Int.toNat_le.2 (and127 _).2, h⟩
set_option maxRecDepth 100000 in
theorem ones_any (x : Int) (w : World) : Calls Tryd.prog 101 #[.int .u64 x] w fun e w' => ∃ r : Nat, e = .returned (.int .i64 (r : Int)) ∧ r ≤ 127 ∧ Drawn0 w w' := by
 go_enter Tryd.func101, Tryd.ntmps101
 go_wp2; go_ret; refine ones_ret _ ?_
 repeat (first | exact Drawn0.refl _ | apply Drawn0.step)
theorem bits_less {t : Nat} (h0 : t ≠ 0) : t &&& (t - 1) < t := Nat.lt_of_le_of_lt Nat.and_le_right (by omega)
set_option maxRecDepth 100000 in
set_option maxHeartbeats 4000000 in
theorem list_any (gb : Nat) (A : Option Addr) (T c : Nat) (B : Option Addr) (M d : Nat) (slC va : Value) (As : Option Addr) (cs : Nat) (sp : List S230) (Ao : Option Addr) (co : Nat) (of_ : List (List Nat)) (w : World) (hb : BookR w gb A T c B M d slC va As cs sp Ao co of_) (hN : sp.length ≤ 1048576) (hT : Tab64 w)
  (Al : Option Addr) (cl : Nat) (s : List Nat) (hs : kU.C w Al s.length s) (hsl : s.length = sp.length) (hlt : ∀ x ∈ s, x < zbi) :
  Calls Tryd.prog 68 #[.pointer (some ⟨gb, 0, none⟩), .slice Al s.length cl] w (RetR k178 178 (zbl sp s s.length) w) := by
 have HBK := Lib.hid hb; have HS := Lib.hid hs; have HSL := Lib.hid hsl; have HLT := Lib.hid hlt; have HTB := Lib.hid hT; have HB0 := Lib.hid (Below.refl w.heap.size w); have hsN : s.length ≤ 1048576 := by omega
 clear hs hb hsl hlt hT
 go_enter Tryd.func68, Tryd.ntmps68
 go_wp2_with fail
 go_loopw [5, 13] (fun v5 v w' => ∃ (i q : Nat), v = .int .i64 (i : Int) ∧ v5 = .int .i64 (q : Int) ∧ i ≤ s.length ∧ q ≤ 127 * i ∧ Hid (Below w.heap.size w w')) (fun _ v _ => s.length - (intOf v).toNat)
 case atStart => exact ⟨0, 0, rfl, rfl, Nat.zero_le _, Nat.le_refl _, HB0⟩
 case round =>
  clear HB0; obtain ⟨i, q, rfl, rfl, hi, hq, HB⟩ := hrel; by_cases hil : i < s.length
  ·obtain ⟨adl, rfl, l0⟩ := at_U (Kd.zav HS.out HB.out) (i := i) hil; generalize fst s i = fs at *; have hib : decide ((i : Int) < (s.length : Int)) = true := decide_eq_true (by omega)
   have hi0 : (0 : Int) ≤ (i : Int) := by omega
   have hi1 : (i : Int) < (s.length : Int) := by omega
   have hiw : IntKind.i64.wrap ((i : Int) + 1) = (i : Int) + 1 := IntWalk.i64_in _ (by omega)
   have hi2 : i + 1 ≤ s.length := hil; have hme : s.length - (i + 1) < s.length - i := by omega
   go_wp2_with (go_at_call 101; refine (ones_any _ _).mono ?_; rintro e1 w1 ⟨r, rfl, hr1, hd1⟩; refine Hid.out ?_)
   refine Lib.hid ?_; have hqw : IntKind.i64.wrap ((q : Int) + (r : Int)) = ((q + r : Nat) : Int) := by rw [IntWalk.i64_in _ (by omega)]; omega
   have hq2 : q + r ≤ 127 * (i + 1) := by omega
   have HB1 := Lib.hid (zam HB.out hd1.below); clear hd1 HB l0
   go_wp2_with fail
   go_roundw
   case rel => first | exact ⟨i + 1, q + r, by rw [Int.natCast_add]; rfl, rfl, hi2, hq2, HB1⟩ | ((repeat apply Exists.intro); exact ⟨⟨i + 1, q + r, by rw [Int.natCast_add]; rfl, rfl, hi2, hq2, HB1⟩, rfl⟩)
   case measure => exact hme
  ·have hib : decide ((i : Int) < (s.length : Int)) = false := decide_eq_false (by omega)
   have hie : i = s.length := by omega
   subst hie; clear hil; have hqb : q ≤ 133169152 := by omega
   go_wp2_with ((with_reducible refine gate_ (.makeSlice 119 (.const (.int .i64 0)) (.tmp 22)) rfl ?_); refine Hid.out ?_)
   refine Lib.hid ?_; refine wpList_make_own wr rfl (.const (.int .i64 0)) (.tmp 22) 119 rfl w.heap.size 178 ((Tryd.prog.info? 178).get (by kernel_rfl)) (.agg #[(.int .i64 0), (.int .i64 0), (.int .i64 0)]) 3 Tryd.underlying119 (by kernel_rfl) (by kernel_rfl) (by kernel_rfl) .i64 .i64 (q : Int) q rfl rfl rfl (by rw [show ((Tryd.prog.info? 178).get (by kernel_rfl)).bytes = 24 from by kernel_rfl]; omega) (by unfold maxLen; omega) HB.out.size ?_
   intro w1 ho1 hg1; have hR0 : k178.R 178 w1 w.heap.size tru (.slice (some ⟨wr.heap.size, 0, none⟩) 0 q) (zbl sp s 0) := ⟨fun _ _ => trivial, [], ho1, ⟨rfl, fun j p h => by simp [zbl] at h⟩⟩
   have hB1 := pw_below_grown HB.out none HB.out.size hg1 (fun k h => by cases h)
   have HR := Lib.hid hR0; have HB1 := Lib.hid hB1; clear hR0 hB1 ho1 hg1 HB hq hqb
   go_wp2_with fail
   go_loopw [8, 26] (fun v8 v w' => ∃ (i : Nat) (A8 : Option Addr) (n8 c8 : Nat), v = .int .i64 (i : Int) ∧ v8 = .slice A8 n8 c8 ∧ i ≤ s.length ∧ Hid (k178.R 178 w' w.heap.size tru (.slice A8 n8 c8) (zbl sp s i)) ∧ Hid (Below w.heap.size w w')) (fun _ v _ => s.length - (intOf v).toNat)
   case atStart => exact ⟨0, _, _, _, rfl, rfl, Nat.zero_le _, HR, HB1⟩
   case round =>
    clear HR HB1; obtain ⟨i, A8, n8, c8, rfl, rfl, hi, HR, HB⟩ := hrel; by_cases hil : i < s.length
    ·obtain ⟨adl, rfl, l0⟩ := at_U (Kd.zav HS.out HB.out) (i := i) hil; have hfl : fst s i < zbi := fst_lt HLT.out i; have HLS := Lib.hid (listN_succ sp s i); have hisp : i < sp.length := by have := HSL.out; omega
     have hib : decide ((i : Int) < (s.length : Int)) = true := decide_eq_true (by omega)
     have hi0 : (0 : Int) ≤ (i : Int) := by omega
     have hi1 : (i : Int) < (s.length : Int) := by omega
     have hi3 : (i : Int) < (sp.length : Int) := by omega
     have hiw : IntKind.i64.wrap ((i : Int) + 1) = (i : Int) + 1 := IntWalk.i64_in _ (by omega)
     have hi2 : i + 1 ≤ s.length := hil; have hme : s.length - (i + 1) < s.length - i := by omega
     have hln := listN_len sp s i; generalize fst s i = fs at *; have HR1 : Hid (∃ pre, pre ++ bitsOf fs = bitsOf fs ∧ k178.R 178 wr w.heap.size tru (.slice A8 n8 c8) (zbl sp s i ++ pre.map (itemOf sp i))) := Lib.hid ⟨[], rfl, by simpa using HR.out⟩
     have HFL := Lib.hid hfl; clear hfl HR
     go_wp2_with fail
     clear l0
     go_loopw [8, 10] (fun v8 v w' => ∃ (t : Nat) (A8 : Option Addr) (n8 c8 : Nat), v = .int .u64 (t : Int) ∧ v8 = .slice A8 n8 c8 ∧ Hid (t < zbi) ∧ Hid (∃ pre, pre ++ bitsOf t = bitsOf fs ∧ k178.R 178 w' w.heap.size tru (.slice A8 n8 c8) (zbl sp s i ++ pre.map (itemOf sp i))) ∧ Hid (Below w.heap.size w w')) (fun _ v _ => (intOf v).toNat)
     case atStart => exact ⟨fs, _, _, _, rfl, rfl, HFL, HR1, HB⟩
     case round =>
      clear HR1 HB; obtain ⟨t, A8, n8, c8, rfl, rfl, HTL, HR, HB⟩ := hrel; by_cases ht0 : t = 0
      ·have hR : k178.R 178 wr w.heap.size tru (.slice A8 n8 c8) (zbl sp s (i + 1)) := by
        obtain ⟨pre, hp, hr⟩ := HR.out; rw [ht0, bitsOf_zero, List.append_nil] at hp; rw [HLS.out, ← hp]; exact hr
       have HR2 := Lib.hid hR; have hne : (((t : Nat) : Int) != 0) = false := by rw [ht0]; rfl
       clear hR HR
       go_wp2_with fail
       go_roundw
       case rel => first | exact ⟨i + 1, _, _, _, by rw [Int.natCast_add]; rfl, rfl, hi2, HR2, HB⟩ | ((repeat apply Exists.intro); exact ⟨⟨i + 1, _, _, _, by rw [Int.natCast_add]; rfl, rfl, hi2, HR2, HB⟩, rfl⟩)
       case measure => exact hme
      ·have hne : (((t : Nat) : Int) != 0) = true := by rw [bne_iff_ne]; omega
       have hne2 : (((t : Nat) : Int) == 0) = false := by rw [beq_eq_false_iff_ne]; omega
       have hne3 : ((t : Int) = 0) = False := by simp; exact ht0
       have htw : IntKind.u64.wrap ((t : Int) - 1) = ((t - 1 : Nat) : Int) := by
        have h := HTL.out; unfold zbi at h; rw [IntKind.wrap_u64]; omega
       have hand : bits .and .u64 (t : Int) ((t - 1 : Nat) : Int) = ((t &&& (t - 1) : Nat) : Int) := u64_and_nat _ _ HTL.out (by have h := HTL.out; unfold zbi at h; omega)
       have hless := bits_less ht0; have hBB := HBK.out.below (W1 := wr.drew) (zaw HB.out); have HBB := Lib.hid hBB; obtain ⟨ads, rfl, x0c, x1c, -, -, -⟩ := at_T230 hBB.hsp (i : Int) (by omega) (by omega)
       rw [Int.toNat_natCast, rd230 hisp] at x0c x1c; have HX0 := Lib.hid x0c; have HX1 := Lib.hid x1c; obtain ⟨k, hk⟩ : ∃ k, k = Lib.ctz 64 t := ⟨_, rfl⟩; have HK := Lib.hid hk; obtain ⟨pre, hp, hr⟩ := HR.out; rw [bitsOf_step ht0 HTL.out, ← hk] at hp; have HTZ := Lib.hid (tz_any t HTL.out ht0 wr.drew (HTB.out.below (zaw HB.out))); have hpl : pre.length ≤ 64 := by
        have h := congrArg List.length hp; have := bitsOf_len fs; rw [List.length_append] at h; omega
       have hbo2 : ((zbl sp s i ++ pre.map (itemOf sp i)).length + 1) * 24 ≤ 140737488355328 := by rw [List.length_append, List.length_map]; omega
       have HR3 := Lib.hid ((Kd.R_drew hr)); have HB3 := Lib.hid (zaw HB.out); have HP := Lib.hid hp; have hit : itemOf sp i k = ⟨(rdSp sp i).f0, (rdSp sp i).f1, (k : Int)⟩ := rfl; have HIT := Lib.hid hit; generalize (rdSp sp i).f0 = p0 at *; generalize (rdSp sp i).f1 = p1 at *; have HL := Lib.hid (C_lit1 (k := k178) (x := ⟨p0, p1, (k : Int)⟩) (k178_mk _ _) (zau wr.drew (.cells #[.int .i64 p0, .int .i64 p1, .int .i64 (k : Int)] 178))); clear hp hr hBB x0c x1c hit HR hk
       go_wp2_with fail
       refine start_ (n := 23) (S := fun w' => w'.cell? ⟨gb, 3, none⟩ = some (.slice (some ads) sp.length cs) ∧ w'.cell? (ads.add (i * 5)) = some (.int .i64 p0) ∧ w'.cell? ⟨(ads.add (i * 5)).block, (ads.add (i * 5)).off + 1, none⟩ = some (.int .i64 p1)) (ds := [21]) #[false, false, false, false, false, false, false, false, false, false, false, false, false, false, false, false, false, false, false, false, false, false, false] (by kernel_rfl) rfl rfl ⟨(zaa HBB.out.bk 3), HX0.out, HX1.out⟩ (fun hHeld => ?_)
       refine pe_ 0 (some 37) ?_ ?_ ?_ ?_ ?_; rotate_left
       ·intro w'; go_simp
        with_reducible rfl
       rotate_left
       ·simp only [nm_]; rfl
       refine pe_ 1 (some 38) ?_ ?_ ?_ ?_ ?_; rotate_left
       ·intro w'; go_simp
        with_reducible rfl
       rotate_left
       ·simp only [nm_]; rfl
       refine pe_ 2 (some 39) ?_ ?_ ?_ ?_ ?_; rotate_left
       ·intro w'; go_simp
        with_reducible rfl
       rotate_left
       ·simp only [nm_]; rfl
       refine pe_ 3 (some 40) ?_ ?_ ?_ ?_ ?_; rotate_left
       ·intro w'; go_simp
        with_reducible rfl
       rotate_left
       ·simp only [nm_]; rfl
       refine pe_ 5 (some 42) ?_ ?_ ?_ ?_ ?_; rotate_left
       ·intro w'; go_simp
        with_reducible rfl
       rotate_left
       ·simp only [nm_]; rfl
       refine pe_ 9 (some 46) ?_ ?_ ?_ ?_ ?_; rotate_left
       ·intro w'; go_simp
        with_reducible rfl
       rotate_left
       ·simp only [nm_]; rfl
       refine pe_ 10 (some 47) ?_ ?_ ?_ ?_ ?_; rotate_left
       ·intro w'; go_simp
        with_reducible rfl
       rotate_left
       ·simp only [nm_]; rfl
       refine pe_ 11 (some 48) ?_ ?_ ?_ ?_ ?_; rotate_left
       ·intro w'; go_simp
        with_reducible rfl
       rotate_left
       ·simp only [nm_]; rfl
       refine pe_ 13 (some 50) ?_ ?_ ?_ ?_ ?_; rotate_left
       ·intro w'; go_simp
        with_reducible rfl
       rotate_left
       ·simp only [nm_]; rfl
       refine pe_ 17 (some 54) ?_ ?_ ?_ ?_ ?_; rotate_left
       ·intro w'; go_simp
        with_reducible rfl
       rotate_left
       ·simp only [nm_]; rfl
       refine te_ 4 (some 41) hHeld ?_ ?_ ?_ ?_ ?_; rotate_left
       ·rintro w' ⟨s0, s1, s2⟩; go_simp
        with_reducible rfl
       rotate_left
       ·simp only [nm_]; rfl
       refine pe_ 6 (some 43) ?_ ?_ ?_ ?_ ?_; rotate_left
       ·intro w'; go_simp
        with_reducible rfl
       rotate_left
       ·simp only [nm_]; rfl
       refine pe_ 7 (some 44) ?_ ?_ ?_ ?_ ?_; rotate_left
       ·intro w'; go_simp
        with_reducible rfl
       rotate_left
       ·simp only [nm_]; rfl
       refine te_ 8 (some 45) hHeld ?_ ?_ ?_ ?_ ?_; rotate_left
       ·rintro w' ⟨s0, s1, s2⟩; go_simp
        with_reducible rfl
       rotate_left
       ·simp only [nm_]; rfl
       refine te_ 12 (some 49) hHeld ?_ ?_ ?_ ?_ ?_; rotate_left
       ·rintro w' ⟨s0, s1, s2⟩; go_simp
        with_reducible rfl
       rotate_left
       ·simp only [nm_]; rfl
       refine pe_ 14 (some 51) ?_ ?_ ?_ ?_ ?_; rotate_left
       ·intro w'; go_simp
        with_reducible rfl
       rotate_left
       ·simp only [nm_]; rfl
       refine pe_ 15 (some 52) ?_ ?_ ?_ ?_ ?_; rotate_left
       ·intro w'; go_simp
        with_reducible rfl
       rotate_left
       ·simp only [nm_]; rfl
       refine te_ 16 (some 53) hHeld ?_ ?_ ?_ ?_ ?_; rotate_left
       ·rintro w' ⟨s0, s1, s2⟩; go_simp
        with_reducible rfl
       rotate_left
       ·simp only [nm_]; rfl
       refine ou_ (i := 18) (N := some 55) rfl rfl (by kernel_rfl) (by decide) (fun K hK => ?_)
       refine goes_ Tryd.func102 (by kernel_rfl) rfl #[.int .u64 (t : Int)] (by rfl) rfl rfl (by simp only [List.map_toArray, List.map_cons, List.map_nil]; rfl) ?_
       with_reducible refine (HTZ.out).mono ?_
       rintro e3 w3 ⟨rfl, rfl⟩; refine ⟨_, rfl, ?_⟩; rw [← HK.out]; refine hK.out _ _ ⟨(zaa HBB.out.bk 3), HX0.out, HX1.out⟩ (fun hHeld => ?_)
       clear hK K; refine norm_ (a' := ?_) ?_ ?_; rotate_left
       ·show Act.put _ (some 55) _ = _; simp only [nm_]; rfl
       refine pe_ 19 (some 56) ?_ ?_ ?_ ?_ ?_; rotate_left
       ·intro w'; go_simp
        with_reducible rfl
       rotate_left
       ·simp only [nm_]; rfl
       refine ou_ (i := 20) (N := some 57) rfl rfl (by kernel_rfl) (by decide) (fun K hK => ?_)
       refine value_ (w1 := ?_) (v := ?_) (by rfl) rfl ?_ ?_
       rotate_left 2
       ·go_simp; constructor
        ·rfl
        ·rfl
       refine hK.out _ _ ⟨(zaa (zad HBB.out.bk _) 3), (zan (zac (Below.refl _ _) _) HX0.out ), (zan (zac (Below.refl _ _) _) HX1.out )⟩ (fun hHeld => ?_)
       clear hK K; refine norm_ (a' := ?_) ?_ ?_; rotate_left
       ·show Act.put _ (some 57) _ = _; simp only [nm_]; rfl
       refine lu_ (i := 21) (N := some 58) rfl rfl (by kernel_rfl) (by decide) (fun K hK => ?_)
       refine Kd.R_append_rows_step k178 (w0 := w) w.heap.size (by rfl) (.tmp 37) (.tmp 57) 119 178 (.agg #[(.int .i64 0), (.int .i64 0), (.int .i64 0)]) 24 rfl Tryd.underlying119 info178 rfl (by decide) (by decide) _ (zbl sp s i ++ pre.map (itemOf sp i)) [⟨p0, p1, (k : Int)⟩] (some ⟨_, 0, none⟩) 1 1 tru (fun _ => False) rfl rfl (Kd.zbk HR3.out _) HL.out (fun _ _ h => h) (fun _ h => h.elim) (fun _ _ => trivial) (zac HB3.out _) (zac HB3.out _).size hbo2 ?_
       intro v7 w7 ho7 hb7 hg7 hat7; obtain ⟨A7, c7, hv7, -, -⟩ := Kd.zbb ho7; generalize hn7 : (zbl sp s i ++ pre.map (itemOf sp i) ++ [(⟨p0, p1, (k : Int)⟩ : S178)]).length = n7 at hv7; subst hv7; clear hn7; refine hK.out _ _ ?_; clear hK K; refine norm_ (a' := ?_) ?_ ?_; rotate_left
       ·show Act.put _ (some 58) _ = _; simp only [nm_]; rfl
       refine pe_ 22 (some 8) ?_ ?_ ?_ ?_ ?_; rotate_left
       ·intro w'; go_simp
        with_reducible rfl
       rotate_left
       ·simp only [nm_]; rfl
       refine done_ (by kernel_rfl) ?_
       have HR4 : Hid (∃ pre, pre ++ bitsOf (t &&& (t - 1)) = bitsOf fs ∧ k178.R 178 w7 w.heap.size tru (.slice A7 n7 c7) (zbl sp s i ++ pre.map (itemOf sp i))) := Lib.hid ⟨pre ++ [k], by rw [List.append_assoc]; exact HP.out, by
        rw [List.map_append, ← List.append_assoc, List.map_cons, List.map_nil, HIT.out]; exact ho7⟩
       have HB4 := Lib.hid hb7; have HTL2 : Hid (t &&& (t - 1) < zbi) := Lib.hid (Nat.lt_trans hless HTL.out); clear ho7 hb7 hg7 hat7 HR3 HL HP HTZ HK; go_simp
       go_wp2_with fail
       go_roundw
       case rel => first | exact ⟨_, _, _, _, rfl, rfl, HTL2, HR4, HB4⟩ | ((repeat apply Exists.intro); exact ⟨⟨_, _, _, _, rfl, rfl, HTL2, HR4, HB4⟩, rfl⟩)
       case measure =>
        show ((t &&& (t - 1) : Nat) : Int).toNat < ((t : Nat) : Int).toNat; rw [Int.toNat_natCast, Int.toNat_natCast]; exact hless
    ·have hib : decide ((i : Int) < (s.length : Int)) = false := decide_eq_false (by omega)
     have hie : i = s.length := by omega
     subst hie
     go_wp2_with fail
     go_ret; exact ⟨_, rfl, HR.out, HB.out⟩
abbrev kB : Kd Int := Kd.int .u8
def dig (d : Nat) : Int := if d < 10 then 48 + d else 87 + d
def t36N : Nat → Nat → List Int
 | 0, u => [dig u]
 | k + 1, u => if u < 36 then [dig u] else t36N k (u / 36) ++ [dig (u % 36)]
def t36 (u : Nat) : List Int := t36N 12 u
theorem t36N_len : ∀ k u, (t36N k u).length ≤ k + 1
 | 0, u => Nat.le_refl _
 | k + 1, u => by
  unfold t36N; have := t36N_len k (u / 36)
  split
  ·simp
  ·rw [List.length_append, List.length_singleton]; omega
def RetApp (B : Nat) (w : World) (row : Option Nat) (xs : List Int) (e : Ending) (w' : World) : Prop := ∃ v, e = .returned v ∧ kB.R 5 w' B tru v xs ∧ Below B w w' ∧ w.grownBy w' row
def RetApp2 (B : Nat) (w : World) (row : Option Nat) (xs : List Int) (e : Ending) (w' : World) : Prop := ∃ v, e = .returned (.tuple #[v, .string ⟨#[]⟩]) ∧ kB.R 5 w' B tru v xs ∧ Below B w w' ∧ w.grownBy w' row
theorem pow_false : strconv_isPowerOfTwo.f 36 = some false := by decide +kernel
theorem info5 : (Tryd.prog.info? 5).map (fun i => (i.zero, i.size, i.bytes)) = some (some (.int .u8 0), 1, 1) := by kernel_rfl
theorem set_drop {α : Type} (l : List α) (j : Nat) (v : α) (h : j < l.length) : (l.set j v).drop j = v :: l.drop (j + 1) := by
 rw [List.drop_set, if_neg (by omega), Nat.sub_self, List.drop_eq_getElem_cons h, List.set_cons_zero]
theorem dig_fin : ∀ d : Fin 36, ((((⟨List.toArray (48 :: 49 :: 50 :: 51 :: 52 :: 53 :: 54 :: 55 :: 56 :: 57 :: 97 :: 98 :: 99 :: 100 :: 101 :: 102 :: 103 :: 104 :: 105 :: 106 :: 107 :: 108 :: 109 :: 110 :: 111 :: 112 :: 113 :: 114 :: 115 :: 116 :: 117 :: 118 :: 119 :: 120 :: 121 :: 122 :: [])⟩ : ByteArray)[d.1]'d.2).toNat : Nat) : Int) = dig d.1 := by decide +kernel
theorem dig_at (d e : Nat) (he : d = e) (h1 : e < 36) (h : d < (⟨List.toArray (48 :: 49 :: 50 :: 51 :: 52 :: 53 :: 54 :: 55 :: 56 :: 57 :: 97 :: 98 :: 99 :: 100 :: 101 :: 102 :: 103 :: 104 :: 105 :: 106 :: 107 :: 108 :: 109 :: 110 :: 111 :: 112 :: 113 :: 114 :: 115 :: 116 :: 117 :: 118 :: 119 :: 120 :: 121 :: 122 :: [])⟩ : ByteArray).size) : ((((⟨List.toArray (48 :: 49 :: 50 :: 51 :: 52 :: 53 :: 54 :: 55 :: 56 :: 57 :: 97 :: 98 :: 99 :: 100 :: 101 :: 102 :: 103 :: 104 :: 105 :: 106 :: 107 :: 108 :: 109 :: 110 :: 111 :: 112 :: 113 :: 114 :: 115 :: 116 :: 117 :: 118 :: 119 :: 120 :: 121 :: 122 :: [])⟩ : ByteArray)[d]'h).toNat : Nat) : Int) = dig e := by
 subst he; exact dig_fin ⟨d, h1⟩
set_option maxRecDepth 100000 in
theorem slice262 (w : World) (b n : Nat) (z : Int) (hz : z = (n : Int)) (hn : n ≤ 65) : (Instr.sliceAt 262 (.pointer (some ⟨b, 0, none⟩)) (some (.int .i64 z)) none none).run Tryd.prog w = .ok (.slice (some (if n = 65 then ⟨b, 0, none⟩ else ⟨b, n, none⟩)) (65 - n) (65 - n)) w := by
 subst hz; have ha : Tryd.prog.arrayLen 262 = 65 := by kernel_rfl
 rw [run_sliceAt_array_l (P := Tryd.prog) w 262 ⟨b, 0, none⟩ Tryd.underlying262 .i64 (n : Int) (by omega) (by rw [ha]; omega), run_sizeOf w (i := (Tryd.prog.info? (Tryd.prog.elem 262)).get (by kernel_rfl)) (by kernel_rfl)]
 simp only [Result.andThen_ok, slicedAt, ha, Int.toNat_natCast]; rw [show Tryd.prog.cellsOf (Tryd.prog.elem 262) = 1 from by kernel_rfl, Nat.mul_one, Addr.add_mid, Nat.zero_add]
 by_cases h : n = 65
 ·rw [if_pos h, if_pos h.symm]
 ·rw [if_neg h, if_neg (fun e => h e.symm)]
theorem below_size' {B : Nat} {w W : World} (h : Below B w W) : w.heap.size ≤ W.heap.size := h.size
theorem t36N_one {r u : Nat} (h : u < 36) : t36N r u = [dig u] := by
 cases r with
 | zero => rfl
 | succ r => unfold t36N; rw [if_pos h]
set_option maxRecDepth 100000 in
set_option maxHeartbeats 4000000 in
theorem format_any (u : Nat) (hu : u < zbi) (B : Nat) (w : World) (v : Value) (xs : List Int) (hr : kB.R 5 w B tru v xs) (hB : B ≤ w.heap.size) (hl : xs.length ≤ 67108864) :
  Calls Tryd.prog 111 #[v, .int .u64 (u : Int), .int .i64 36, .bool false, .bool true] w (RetApp2 B w v.ownBlock (xs ++ t36 u)) := by
 have HR := Lib.hid hr; have HBW := Lib.hid (Below.refl B w); obtain ⟨Av, cv, rfl, hcv, -⟩ := Kd.zbb hr; have hu2 : u < 36 ^ 13 := Nat.lt_trans hu (by decide)
 have HU2 := Lib.hid hu2; have hu64 : u < 18446744073709551616 := hu; clear hr hu2 hu; have hp36 : Hid True := Lib.hid trivial
 go_enter Tryd.func111, Tryd.ntmps111
 go_wp2_with (go_at_call 127; refine (strconv_isPowerOfTwo.calls 36 false _ pow_false).mono ?_; rintro e1 w1 ⟨rfl, hd1⟩; refine Hid.out ?_)
 refine Lib.hid ?_; have HA := Lib.hid (zak (zau w (.cells Tryd.zeroCells262 262)) hd1.below); have HW1 := Lib.hid (zam (zac (Below.refl _ w) (.cells Tryd.zeroCells262 262)) hd1.below); have HB1 := Lib.hid (((Below.refl B w).alloc hB (.cells Tryd.zeroCells262 262)).trans (Below.mono hd1.below (by rw [szA]; omega)))
 have HR1 := Lib.hid (Kd.zbf (Kd.zbk HR.out (.cells Tryd.zeroCells262 262)) hd1.below); clear hd1 HBW HR; have hzl : Tryd.zeroCells262 = (List.replicate 65 (Value.int .u8 0)).toArray := by kernel_rfl
 rw [hzl] at HA; clear hzl hp36
 go_wp2_with fail
 go_loopw [1, 13] (fun v1 v13 w' => ∃ (r u' : Nat) (arr : List Value) (acc : List Int), v1 = .int .u64 (u' : Int) ∧ v13 = .int .i64 ((53 + r : Nat) : Int) ∧ r ≤ 12 ∧ Hid (u' < 36 ^ (r + 1)) ∧ u' < 18446744073709551616 ∧ Hid (t36N r u' ++ acc = t36 u) ∧ Hid (w'.heap[w.heap.size]? = some (.cells arr.toArray 262 (0, 0))) ∧ Hid (arr.length = 65) ∧ Hid (arr.drop (53 + r) = acc.map (Value.int .u8)) ∧ Hid (Below B w w') ∧ Hid (kB.R 5 w' B tru (.slice Av xs.length cv) xs) ∧ Hid (Below w.heap.size w w')) (fun v1 v13 _ => (intOf v13).toNat)
 case atStart => exact ⟨12, u, _, [], rfl, rfl, Nat.le_refl _, HU2, hu64, Lib.hid (List.append_nil _), HA, Lib.hid List.length_replicate, Lib.hid rfl, HB1, HR1, HW1⟩
 case round =>
  clear HA HB1 HR1 HW1; obtain ⟨r, u', arr, acc, rfl, rfl, hr12, HU, hu', HT, HA, HAL, HAD, HB1, HR1, HW1⟩ := hrel; by_cases h36 : 36 ≤ u'
  ·obtain ⟨r, rfl⟩ : ∃ q, r = q + 1 := ⟨r - 1, by
    have h := HU.out; rcases Nat.eq_zero_or_pos r with h0 | h0
    ·rw [h0] at h; have : u' < 36 := h; omega
    ·omega⟩
   have hge : decide ((u' : Int) ≥ 36) = true := decide_eq_true (by omega)
   have hge2 : decide ((36 : Int) ≤ (u' : Int)) = true := decide_eq_true (by omega)
   have hiw : IntKind.i64.wrap (((53 + (r + 1) : Nat) : Int) - 1) = ((53 + r : Nat) : Int) := by rw [IntWalk.i64_in _ (by omega)]; omega
   have hq1 : (u' : Int) / 36 * 36 ≤ (u' : Int) := by omega
   have hq2 : (u' : Int) - (u' : Int) / 36 * 36 < 36 := by omega
   have hdg := dig_at (u' - u' / 36 * 36) (u' % 36) (by omega) (by omega)
   have hlen := HAL.out; have h53 : 53 + r < arr.length := by rw [hlen]; omega
   have ca : wr.cell? ⟨w.heap.size, 53 + r, none⟩ = some (arr[53 + r]'h53) := (zaa HA.out (53 + r)).trans (by rw [List.getElem?_toArray, List.getElem?_eq_getElem])
   have cf := zae HA.out (53 + r); have he13 : Value.int .i64 (53 + ((r : Int) + 1) - 1) = Value.int .i64 ((53 + r : Nat) : Int) := congrArg (Value.int .i64) (by omega)
   have heu : Value.int .u64 ((u' : Int) / 36) = Value.int .u64 ((u' / 36 : Nat) : Int) := congrArg (Value.int .u64) (by omega)
   have hme : (53 + ((r : Int) + 1) - 1).toNat < ((53 + (r + 1) : Nat) : Int).toNat := by omega
   have HU3 : Hid (u' / 36 < 36 ^ (r + 1)) := Lib.hid (by
    have h := HU.out; rw [Nat.pow_succ] at h; exact Nat.div_lt_of_lt_mul (by rw [Nat.mul_comm]; exact h))
   have hu3 : u' / 36 < 18446744073709551616 := by omega
   have HT3 : Hid (t36N r (u' / 36) ++ (dig (u' % 36) :: acc) = t36 u) := Lib.hid (by
    have h := HT.out; unfold t36N at h; rw [if_neg (by omega), List.append_assoc] at h
    exact h)
   have HA3 : Hid ((wr.setCell ⟨w.heap.size, 53 + r, none⟩ (.int .u8 (dig (u' % 36)))).heap[w.heap.size]? = some (.cells (arr.set (53 + r) (.int .u8 (dig (u' % 36)))).toArray 262 (0, 0))) := Lib.hid (zat HA.out (53 + r) _ (by rw [List.setIfInBounds_toArray]))
   have HAL3 : Hid ((arr.set (53 + r) (.int .u8 (dig (u' % 36)))).length = 65) := Lib.hid (by rw [List.length_set]; exact hlen)
   have HAD3 : Hid ((arr.set (53 + r) (.int .u8 (dig (u' % 36)))).drop (53 + r) = (dig (u' % 36) :: acc).map (Value.int .u8)) := Lib.hid (by
    rw [set_drop _ _ _ (by omega), List.map_cons, ← HAD.out]
    rfl)
   have HB3 := Lib.hid (HB1.out.setCell (p := ⟨w.heap.size, 53 + r, none⟩) hB (.int .u8 (dig (u' % 36)))); have HR3 := Lib.hid (Kd.zbp HR1.out HA.out (by decide) (53 + r) (.int .u8 (dig (u' % 36))))
   have hr3 : r ≤ 12 := by omega
   have HW3 := Lib.hid (zaf (j := 53 + r) (v := .int .u8 (dig (u' % 36))) HW1.out (Nat.le_refl w.heap.size)); have HLEN := Lib.hid hlen; clear HA HAL HAD HB1 HR1 HT HU hlen HW1
   go_wp2_with fail
   go_roundw
   case rel => first | exact ⟨r, u' / 36, _, _, heu, he13, hr3, HU3, hu3, HT3, HA3, HAL3, HAD3, HB3, HR3, HW3⟩ | ((repeat apply Exists.intro); exact ⟨⟨r, u' / 36, _, _, heu, he13, hr3, HU3, hu3, HT3, HA3, HAL3, HAD3, HB3, HR3, HW3⟩, rfl⟩)
   case measure => exact hme
  ·have hge : decide ((u' : Int) ≥ 36) = false := decide_eq_false (by omega)
   have hge2 : decide ((36 : Int) ≤ (u' : Int)) = false := decide_eq_false (by omega)
   have hiw : IntKind.i64.wrap (((53 + r : Nat) : Int) - 1) = ((52 + r : Nat) : Int) := by rw [IntWalk.i64_in _ (by omega)]; omega
   have hu36 : u' < 36 := by omega
   have hu0 : (0 : Int) ≤ (u' : Int) := Int.natCast_nonneg _; have hu1 : (u' : Int) < 36 := by omega
   have hdg := dig_at u' u' rfl hu36; have hlen := HAL.out; have h52 : 52 + r < arr.length := by rw [hlen]; omega
   have ca : wr.cell? ⟨w.heap.size, 52 + r, none⟩ = some (arr[52 + r]'h52) := (zaa HA.out (52 + r)).trans (by rw [List.getElem?_toArray, List.getElem?_eq_getElem])
   have cf := zae HA.out (52 + r); have HT3 : Hid (dig u' :: acc = t36 u) := Lib.hid (by
    have h := HT.out; rw [t36N_one hu36] at h; exact h)
   have HA3 : Hid ((wr.setCell ⟨w.heap.size, 52 + r, none⟩ (.int .u8 (dig u'))).heap[w.heap.size]? = some (.cells (arr.set (52 + r) (.int .u8 (dig u'))).toArray 262 (0, 0))) := Lib.hid (zat HA.out (52 + r) _ (by rw [List.setIfInBounds_toArray]))
   have hAL3 : (arr.set (52 + r) (.int .u8 (dig u'))).length = 65 := by rw [List.length_set]; exact hlen
   have HAL3 := Lib.hid hAL3; have HAD3 : Hid ((arr.set (52 + r) (.int .u8 (dig u'))).drop (52 + r) = (dig u' :: acc).map (Value.int .u8)) := Lib.hid (by
    rw [set_drop _ _ _ h52, List.map_cons, ← HAD.out]; rw [show 52 + r + 1 = 53 + r by omega])
   have HB3 := Lib.hid (HB1.out.setCell (p := ⟨w.heap.size, 52 + r, none⟩) hB (.int .u8 (dig u'))); have HR3 := Lib.hid (Kd.zbp HR1.out HA.out (by decide) (52 + r) (.int .u8 (dig u')))
   have HW3 := Lib.hid (zaf (j := 52 + r) (v := .int .u8 (dig u')) HW1.out (Nat.le_refl w.heap.size)); have hsl0 := slice262 (wr.setCell ⟨w.heap.size, 52 + r, none⟩ (.int .u8 (dig u'))) w.heap.size (52 + r) (53 + (r : Int) - 1) (by omega) (by omega)
   rw [if_neg (by omega)] at hsl0
   have hal : acc.length + 1 = 13 - r := by
    have h := congrArg List.length HAD3.out; rw [List.length_drop, hAL3, List.length_map, List.length_cons] at h; omega
   have HC3 : Hid (kB.C (wr.setCell ⟨w.heap.size, 52 + r, none⟩ (.int .u8 (dig u'))) (some ⟨w.heap.size, 52 + r, none⟩) (65 - (52 + r)) (dig u' :: acc)) := Lib.hid (by
    have h := C_cells (enc := Value.int .u8) (h1 := fun _ => rfl) (w := wr.setCell ⟨w.heap.size, 52 + r, none⟩ (.int .u8 (dig u'))) (b := w.heap.size) (o := 52 + r) (dig u' :: acc) (by rw [List.length_cons]; omega) (fun j hj => by
     rw [zaa HA3.out, List.getElem?_toArray, ← List.getElem?_drop, HAD3.out, List.getElem?_map, List.getElem?_eq_getElem hj]; rfl)
    rw [List.length_cons, hal, show 13 - r = 65 - (52 + r) by omega] at h
    exact h)
   have HT4 := HT3; have hbo : (xs.length + (65 - (52 + r))) * 1 ≤ 140737488355328 := by omega
   have HLEN := Lib.hid hlen; have HAL5 := Lib.hid hal; clear HA HAL HAD HB1 HR1 HT HU HA3 hAL3 HAL3 HAD3 hal hge hge2
   go_wp2_with ((with_reducible refine zay (b := .append) (xs := #[.tmp 95, .tmp 97]) rfl ?_); refine Hid.out ?_)
   refine Lib.hid ?_
   at_builtin
   refine Kd.zbj kB (w0 := w) B rfl (.tmp 95) (.tmp 97) 70 5 (.int .u8 0) 1 rfl Tryd.underlying70 info5 rfl (by decide) (by decide) _ xs (dig u' :: acc) (some ⟨w.heap.size, 52 + r, none⟩) (65 - (52 + r)) (65 - (52 + r)) tru (fun _ => False) rfl rfl HR3.out HC3.out (fun _ _ h => h) (fun _ h => h.elim) (fun _ _ => trivial) HB3.out (Nat.le_trans hB (below_size' HB3.out)) hbo ?_
   intro v5 w5 ho5 hb5 hg5 hat5; rw [HT4.out] at ho5; have HO5 := Lib.hid ho5; have HB5 := Lib.hid hb5; have HG5 := Lib.hid (World.grownBy.trans (grown_of_below HW3.out _) hg5); clear ho5 hb5 hg5 hat5
   go_wp2_with fail
   go_ret2
   exact ⟨v5, rfl, HO5.out, HB5.out, HG5.out⟩
set_option maxRecDepth 100000 in
set_option maxHeartbeats 4000000 in
theorem appUintIn_any (u : Nat) (hu : u < zbi) (B : Nat) (w : World) (v : Value) (xs : List Int) (hr : kB.R 5 w B tru v xs) (hB : B ≤ w.heap.size) (hl : xs.length ≤ 67108864) :
  Calls Tryd.prog 121 #[v, .int .u64 (u : Int), .int .i64 36] w (RetApp B w v.ownBlock (xs ++ t36 u)) := by
 have HC := Lib.hid (format_any u hu B w v xs hr hB hl); obtain ⟨Av, cv, rfl, hcv, -⟩ := Kd.zbb hr; clear hr hu
 go_enter Tryd.func121, Tryd.ntmps121
 go_wp2_with (go_at_call 111; refine (HC.out).mono ?_; rintro e1 w1 ⟨v1, rfl, hr1, hb1, hg1⟩; refine Hid.out ?_)
 refine Lib.hid ?_; have HR1 := Lib.hid hr1; have HB1 := Lib.hid hb1; have HG1 := Lib.hid hg1; clear hr1 hb1 hg1
 go_wp2_with fail
 go_ret; exact ⟨v1, rfl, HR1.out, HB1.out, HG1.out⟩
set_option maxRecDepth 100000 in
set_option maxHeartbeats 4000000 in
theorem appUint_any (u : Nat) (hu : u < zbi) (B : Nat) (w : World) (v : Value) (xs : List Int) (hr : kB.R 5 w B tru v xs) (hB : B ≤ w.heap.size) (hl : xs.length ≤ 67108864) :
  Calls Tryd.prog 100 #[v, .int .u64 (u : Int), .int .i64 36] w (RetApp B w v.ownBlock (xs ++ t36 u)) := by
 have HC := Lib.hid (appUintIn_any u hu B w v xs hr hB hl); obtain ⟨Av, cv, rfl, hcv, -⟩ := Kd.zbb hr; clear hr hu
 go_enter Tryd.func100, Tryd.ntmps100
 go_wp2_with (go_at_call 121; refine (HC.out).mono ?_; rintro e1 w1 ⟨v1, rfl, hr1, hb1, hg1⟩; refine Hid.out ?_)
 refine Lib.hid ?_; have HR1 := Lib.hid hr1; have HB1 := Lib.hid hb1; have HG1 := Lib.hid hg1; clear hr1 hb1 hg1
 go_wp2_with fail
 go_ret; exact ⟨v1, rfl, HR1.out, HB1.out, HG1.out⟩
set_option maxRecDepth 100000 in
set_option maxHeartbeats 4000000 in
theorem appIntIn_any (u : Nat) (hu : u < 9223372036854775808) (B : Nat) (w : World) (v : Value) (xs : List Int) (hr : kB.R 5 w B tru v xs) (hB : B ≤ w.heap.size) (hl : xs.length ≤ 67108864) :
  Calls Tryd.prog 120 #[v, .int .i64 (u : Int), .int .i64 36] w (RetApp B w v.ownBlock (xs ++ t36 u)) := by
 have HC := Lib.hid (appUintIn_any u (by unfold zbi; omega) B w v xs hr hB hl)
 obtain ⟨Av, cv, rfl, hcv, -⟩ := Kd.zbb hr; have hw : IntKind.u64.wrap (u : Int) = (u : Int) := by rw [IntKind.wrap_u64]; omega
 have h0 : decide ((u : Int) < 0) = false := decide_eq_false (by omega)
 have h1 : (0 : Int) ≤ (u : Int) := Int.natCast_nonneg _; clear hr
 go_enter Tryd.func120, Tryd.ntmps120
 go_wp2_with (go_at_call 121; refine (HC.out).mono ?_; rintro e1 w1 ⟨v1, rfl, hr1, hb1, hg1⟩; refine Hid.out ?_)
 refine Lib.hid ?_; have HR1 := Lib.hid hr1; have HB1 := Lib.hid hb1; have HG1 := Lib.hid hg1; clear hr1 hb1 hg1
 go_wp2_with fail
 go_ret; exact ⟨v1, rfl, HR1.out, HB1.out, HG1.out⟩
set_option maxRecDepth 100000 in
set_option maxHeartbeats 4000000 in
theorem appInt_any (u : Nat) (hu : u < 9223372036854775808) (B : Nat) (w : World) (v : Value) (xs : List Int) (hr : kB.R 5 w B tru v xs) (hB : B ≤ w.heap.size) (hl : xs.length ≤ 67108864) :
  Calls Tryd.prog 99 #[v, .int .i64 (u : Int), .int .i64 36] w (RetApp B w v.ownBlock (xs ++ t36 u)) := by
 have HC := Lib.hid (appIntIn_any u hu B w v xs hr hB hl); obtain ⟨Av, cv, rfl, hcv, -⟩ := Kd.zbb hr; clear hr hu
 go_enter Tryd.func99, Tryd.ntmps99
 go_wp2_with (go_at_call 120; refine (HC.out).mono ?_; rintro e1 w1 ⟨v1, rfl, hr1, hb1, hg1⟩; refine Hid.out ?_)
 refine Lib.hid ?_; have HR1 := Lib.hid hr1; have HB1 := Lib.hid hb1; have HG1 := Lib.hid hg1; clear hr1 hb1 hg1
 go_wp2_with fail
 go_ret; exact ⟨v1, rfl, HR1.out, HB1.out, HG1.out⟩
def keyOne (m : S166) : List Int := t36 m.f0.toNat ++ [58] ++ t36 m.f1.toNat ++ [32]
def keyS (l : List S166) : List Int := l.flatMap keyOne
theorem keyS_snoc (l : List S166) (m : S166) : keyS (l ++ [m]) = keyS l ++ t36 m.f0.toNat ++ [58] ++ t36 m.f1.toNat ++ [32] := by
 unfold keyS; rw [List.flatMap_append]; simp [keyOne]
theorem t36_len (u : Nat) : (t36 u).length ≤ 13 := t36N_len 12 u
theorem keyS_len : ∀ l : List S166, (keyS l).length ≤ 28 * l.length
 | [] => Nat.le_refl _
 | m :: l => by
  have := keyS_len l; have h1 := t36_len m.f0.toNat; have h2 := t36_len m.f1.toNat; have e : keyS (m :: l) = keyOne m ++ keyS l := by simp [keyS]
  rw [e, List.length_append, List.length_cons]; simp only [keyOne, List.length_append, List.length_singleton]; omega
set_option maxRecDepth 100000 in
set_option maxHeartbeats 4000000 in
theorem key_any (w : World) (Al : Option Addr) (cl : Nat) (l : List S166) (hl : k166.C w Al l.length l) (N : Nat) (hN : N ≤ 1048576) (hm : FitM N l) :
  Calls Tryd.prog 66 #[.slice Al l.length cl] w fun e w' => e = .returned (.string (strOfNums (keyS l))) ∧ Below w.heap.size w w' := by
 have HL := Lib.hid hl; have HM := Lib.hid hm; have hln := hm.len; have HB0 := Lib.hid (Below.refl w.heap.size w); have HR0 := Lib.hid (Kd.R_nil kB 5 w w.heap.size tru); clear hl hm
 go_enter Tryd.func66, Tryd.ntmps66
 go_wp2_with fail
 go_loopw [3, 8] (fun v3 v w' => ∃ (i : Nat) (A3 : Option Addr) (n3 c3 : Nat), v = .int .i64 (i : Int) ∧ v3 = .slice A3 n3 c3 ∧ i ≤ l.length ∧ Hid (kB.R 5 w' w.heap.size tru (.slice A3 n3 c3) (keyS (l.take i))) ∧ Hid (Below w.heap.size w w')) (fun _ v _ => l.length - (intOf v).toNat)
 case atStart => exact ⟨0, _, _, _, rfl, rfl, Nat.zero_le _, HR0, HB0⟩
 case round =>
  clear HR0 HB0; obtain ⟨i, A3, n3, c3, rfl, rfl, hi, HR, HB⟩ := hrel; by_cases hil : i < l.length
  ·obtain ⟨adm, rfl, m0, m1⟩ := at_T166 (Kd.zav HL.out HB.out) (i : Int) (by omega) (by omega)
   rw [Int.toNat_natCast] at m0 m1; have HTS := Lib.hid (take_snoc166 hil); have hsp := HM.out.spot _ (rd166_mem hil); have hlo := HM.out.looks _ (rd166_mem hil); generalize rd_T166 l (i : Int) = mk at *; obtain ⟨msp, mlo⟩ := mk; simp only at m0 m1 hsp hlo; obtain ⟨ms, rfl⟩ := Int.eq_ofNat_of_zero_le hsp.1; obtain ⟨ml, rfl⟩ := Int.eq_ofNat_of_zero_le hlo.1; have hib : decide ((i : Int) < (l.length : Int)) = true := decide_eq_true (by omega)
   have hi0 : (0 : Int) ≤ (i : Int) := by omega
   have hi1 : (i : Int) < (l.length : Int) := by omega
   have hiw : IntKind.i64.wrap ((i : Int) + 1) = (i : Int) + 1 := IntWalk.i64_in _ (by omega)
   have hms : ms < 9223372036854775808 := by omega
   have HML : Hid (ml < zbi) := Lib.hid (by unfold zbi; omega)
   have hkl : (keyS (l.take i)).length ≤ 29360128 := by
    have := keyS_len (l.take i); rw [List.length_take] at this; omega
   have hi2 : i + 1 ≤ l.length := hil; have hme : l.length - (i + 1) < l.length - i := by omega
   have h1l := t36_len ms; have h2l := t36_len ml; have HRA := Lib.hid (Kd.zbk HR.out (.cells #[.int .i64 (ms : Int), .int .u64 (ml : Int)] 166)); have HBA := Lib.hid (zac HB.out (.cells #[.int .i64 (ms : Int), .int .u64 (ml : Int)] 166)); have HMA := Lib.hid (zau wr (.cells #[.int .i64 (ms : Int), .int .u64 (ml : Int)] 166)); have hwl : w.heap.size ≤ wr.heap.size := HB.out.size; clear hsp hlo HR HB; generalize hK : keyS (l.take i) = ks at *; have HK := Lib.hid hK; clear hK
   go_wp2_with (go_at_call 99; refine (appInt_any ms hms w.heap.size _ _ ks HRA.out HBA.out.size (by omega)).mono ?_; rintro e1 w1 ⟨v1, rfl, hr1, hb1, hg1⟩; refine Hid.out ?_)
   refine Lib.hid ?_; have HM1 := Lib.hid (zas HMA.out hg1 (Kd.R_ne HRA.out HMA.out (by decide)))
   have HR1 := Lib.hid hr1; have HB1 := Lib.hid (HBA.out.trans hb1); clear hr1 hb1 hg1 HRA HBA HMA m0 m1; obtain ⟨A4, c4, rfl, -, -⟩ := Kd.zbb HR1.out; generalize hn4 : (ks ++ t36 ms).length = n4 at HR1
   try rw [hn4]
   have hn4b : n4 ≤ 29360141 := by rw [← hn4, List.length_append]; omega
   have HN4 := Lib.hid hn4; clear hn4; have HR2 := Lib.hid (Kd.zbk HR1.out (.cells #[.int .u8 58] 5)); have HB2 := Lib.hid (zac HB1.out (.cells #[.int .u8 58] 5)); have HM2 := Lib.hid (zad HM1.out (.cells #[.int .u8 58] 5)); have HL2 := Lib.hid (C_lit1 (k := kB) (x := 58) (cs := [.int .u8 58]) rfl (zau w1 (.cells #[.int .u8 58] 5))); have hbo1 : ((ks ++ t36 ms).length + 1) * 1 ≤ 140737488355328 := by rw [HN4.out]; omega
   go_wp2_with ((with_reducible refine zay (b := .append) (xs := #[.tmp 16, .tmp 17]) rfl ?_); refine Hid.out ?_)
   refine Lib.hid ?_
   at_builtin
   refine Kd.zbj kB (w0 := w) w.heap.size rfl (.tmp 16) (.tmp 17) 70 5 (.int .u8 0) 1 rfl Tryd.underlying70 info5 rfl (by decide) (by decide) _ (ks ++ t36 ms) [58] (some ⟨_, 0, none⟩) 1 1 tru (fun _ => False) rfl rfl HR2.out HL2.out (fun _ _ h => h) (fun _ h => h.elim) (fun _ _ => trivial) HB2.out HB2.out.size hbo1 ?_
   intro v5 w5 ho5 hb5 hg5 hat5; have HM5 := Lib.hid (zas HM2.out hg5 (Kd.R_ne HR2.out HM2.out (by decide)))
   have HR5 := Lib.hid ho5; have HB5 := Lib.hid hb5; clear ho5 hb5 hg5 hat5 HR2 HB2 HM2 HL2 HR1 HB1 HM1; have q1 := zaa HM5.out 1; simp at q1; have hb5l : (ks ++ t36 ms ++ [58]).length ≤ 67108864 := by rw [List.length_append, HN4.out, List.length_singleton]; omega
   go_wp2_with (go_at_call 100; refine (appUint_any ml HML.out w.heap.size _ _ (ks ++ t36 ms ++ [58]) HR5.out HB5.out.size hb5l).mono ?_; rintro e6 w6 ⟨v6, rfl, hr6, hb6, hg6⟩; refine Hid.out ?_)
   refine Lib.hid ?_; have HR6 := Lib.hid hr6; have HB6 := Lib.hid (HB5.out.trans hb6); clear hr6 hb6 hg6 HR5 HB5 HM5 q1; obtain ⟨A7, c7, rfl, -, -⟩ := Kd.zbb HR6.out; have hbo7 : ((ks ++ t36 ms ++ [58] ++ t36 ml).length + 1) * 1 ≤ 140737488355328 := by rw [List.length_append]; omega
   generalize hn7 : (ks ++ t36 ms ++ [58] ++ t36 ml).length = n7 at HR6
   try rw [hn7]
   clear hn7; have HR7 := Lib.hid (Kd.zbk HR6.out (.cells #[.int .u8 32] 5)); have HB7 := Lib.hid (zac HB6.out (.cells #[.int .u8 32] 5)); have HL7 := Lib.hid (C_lit1 (k := kB) (x := 32) (cs := [.int .u8 32]) rfl (zau w6 (.cells #[.int .u8 32] 5)))
   go_wp2_with ((with_reducible refine zay (b := .append) (xs := #[.tmp 23, .tmp 24]) rfl ?_); refine Hid.out ?_)
   refine Lib.hid ?_
   at_builtin
   refine Kd.zbj kB (w0 := w) w.heap.size rfl (.tmp 23) (.tmp 24) 70 5 (.int .u8 0) 1 rfl Tryd.underlying70 info5 rfl (by decide) (by decide) _ (ks ++ t36 ms ++ [58] ++ t36 ml) [32] (some ⟨_, 0, none⟩) 1 1 tru (fun _ => False) rfl rfl HR7.out HL7.out (fun _ _ h => h) (fun _ h => h.elim) (fun _ _ => trivial) HB7.out HB7.out.size hbo7 ?_
   intro v8 w8 ho8 hb8 hg8 hat8; obtain ⟨A9, c9, rfl, -, -⟩ := Kd.zbb ho8; generalize hn9 : (ks ++ t36 ms ++ [58] ++ t36 ml ++ [32]).length = n9 at ho8
   try rw [hn9]
   have HR9 : Hid (kB.R 5 w8 w.heap.size tru (.slice A9 n9 c9) (keyS (l.take (i + 1)))) := Lib.hid (by
    rw [HTS.out, keyS_snoc, HK.out]; exact ho8)
   have HB9 := Lib.hid hb8; clear hn9 ho8 hb8 hg8 hat8 HR7 HB7 HL7 HR6 HB6
   go_wp2_with fail
   go_roundw
   case rel => first | exact ⟨i + 1, _, _, _, by rw [Int.natCast_add]; rfl, rfl, hi2, HR9, HB9⟩ | ((repeat apply Exists.intro); exact ⟨⟨i + 1, _, _, _, by rw [Int.natCast_add]; rfl, rfl, hi2, HR9, HB9⟩, rfl⟩)
   case measure => exact hme
  ·have hib : decide ((i : Int) < (l.length : Int)) = false := decide_eq_false (by omega)
   have hie : i = l.length := by omega
   subst hie; rw [List.take_length] at HR; obtain ⟨hn3, hc3, hC3⟩ := Kd.zbh HR.out; have hst := Kd.C_string (P := Tryd.prog) (dst := 9) (c := c3) (w := wr) Tryd.underlying70 Tryd.underlying5 Tryd.underlying9 (by rw [← hn3] at hC3; exact hC3)
   clear hil hn3 hc3 hC3
   go_wp2_with fail
   go_ret; exact ⟨rfl, HB.out⟩
end Bld
end Go.Proofs.YtcijanmckhlpiaaDoor
