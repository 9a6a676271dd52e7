-- Texts of this seat, cut to what is used and merged (by shake.py).
import Derived.Test.YtcijanmckhlpiaaDoorSq10
import Derived.Test.YtcijanmckhlpiaaDoorSq15
import Derived.Deep.QuietTactic
set_option linter.unusedVariables false
set_option linter.unusedSimpArgs false
namespace Go.Proofs.YtcijanmckhlpiaaDoor
open Go.RowKit Go.Proofs.YtcijanmckhlpiaaDoorW.PrintWords Go.Proofs.YtcijanmckhlpiaaDoorW.PrintLast Go.Proofs.YtcijanmckhlpiaaDoorW.PrintMore Go.Proofs.YtcijanmckhlpiaaDoor.PTableBuilds
namespace Doc
open Bld
structure DB (W : World) (b : Nat) (A : Option Addr) (c : Nat) (l : List S112) (B : Option Addr) (d : Nat) (m : List S115) (C : Option Addr) (e : Nat) (ps : List S77) (KK nb : Nat) (N : List Bool) (Af : Option Addr) (cf : Nat) (FL : List Nat) (Aa : Option Addr) (ca : Nat) : Prop where
 bk : W.heap[b]? = some (.cells #[.slice A l.length c, .slice B m.length d, .slice C ps.length e, .slice (some ⟨nb, 0, none⟩) KK KK, .slice Af KK cf, .slice Aa ps.length ca, .int .i64 ((dots ps : Nat) : Int)] 236 (0, 0))
 g : GR W A c l B d m C e ps
 n : W.heap[nb]? = some (.cells (bl N) 4 (0, 0))
 f : kU.C W Af KK FL
 at_ : kN.C W Aa ps.length (atS 0 ps)
theorem DB.below {W W' : World} {b : Nat} {A : Option Addr} {c : Nat} {l : List S112} {B : Option Addr} {d : Nat} {m : List S115} {C : Option Addr} {e : Nat} {ps : List S77} {KK nb : Nat} {N : List Bool} {Af : Option Addr} {cf : Nat} {FL : List Nat} {Aa : Option Addr} {ca : Nat} (h : DB W b A c l B d m C e ps KK nb N Af cf FL Aa ca) (hb : Below W.heap.size W W') : DB W' b A c l B d m C e ps KK nb N Af cf FL Aa ca :=
 ⟨zak h.bk hb, h.g.below hb, zak h.n hb, Kd.zav h.f hb, Kd.zav h.at_ hb⟩
theorem ne_type {W : World} {g h t u : Nat} {cs ds : Array Value} {fr fs : Nat × Nat} (hg : W.heap[g]? = some (.cells cs t fr)) (hh : W.heap[h]? = some (.cells ds u fs)) (ht : t ≠ u) : g ≠ h := fun e => by
 subst e; rw [hg] at hh; injection hh with hh; injection hh with _ hh _; exact ht hh
set_option maxRecDepth 100000 in
set_option maxHeartbeats 4000000 in
theorem dbook_any (A : Option Addr) (c : Nat) (l : List S112) (B : Option Addr) (d : Nat) (m : List S115) (C : Option Addr) (e : Nat) (ps : List S77) (w : World) (hg : GR w A c l B d m C e ps) (hf : Bld.Fair l.length m.length ps) (F : List Nat) (hF : ∀ x t, (fst F x).testBit t = true ↔ t < l.length ∧ Lead l.length ps x t) :
  Calls Tryd.prog 71 #[.agg #[.slice A l.length c, .slice B m.length d, .slice C ps.length e]] w fun e' w' => ∃ b nb Af cf Aa ca, e' = .returned (.pointer (some ⟨b, 0, none⟩)) ∧ DB w' b A c l B d m C e ps (l.length + m.length) nb (nullN l.length ps m.length (List.replicate (l.length + m.length) false)) Af cf ((List.range (l.length + m.length)).map (fst F)) Aa ca ∧ Below w.heap.size w w' := by
 have t1 := hf.t1; have t64 := hf.t64; have m128 := hf.m128; have hlen := hf.len; have htot := hf.tot; have HG := Lib.hid hg; have HFR := Lib.hid hf; obtain ⟨KK, hK⟩ : ∃ KK, KK = l.length + m.length := ⟨_, rfl⟩; have HNU : Hid (∀ W, Below w.heap.size w W → Calls Tryd.prog 103 #[.agg #[.slice A l.length c, .slice B m.length d, .slice C ps.length e]] W fun e' w' => ∃ b, e' = .returned (.slice (some ⟨b, 0, none⟩) KK KK) ∧ W.heap.size ≤ b ∧ Below W.heap.size W w' ∧ w'.heap[b]? = some (.cells (bl (nullN l.length ps m.length (List.replicate KK false))) 4 (0, 0))) := Lib.hid (fun W hb => by
  rw [hK]; exact nullable_any A c l B d m C e ps W (hg.below hb) hf)
 have HFI : Hid (∀ W, Below w.heap.size w W → Calls Tryd.prog 104 #[.agg #[.slice A l.length c, .slice B m.length d, .slice C ps.length e]] W fun e' w' => ∃ v, e' = .returned v ∧ kU.R 128 w' W.heap.size tru v ((List.range KK).map (fst F)) ∧ Below W.heap.size W w') := Lib.hid (fun W hb => by
  rw [hK]; exact first_any A c l B d m C e ps W (hg.below hb) hf F hF)
 have HX0 := Lib.hid (zau w (.cells #[.slice A l.length c, .slice B m.length d, .slice C ps.length e] 51)); have HB0 := Lib.hid (zac (Below.refl w.heap.size w) (.cells #[.slice A l.length c, .slice B m.length d, .slice C ps.length e] 51)); rw [← hK]; generalize nullN l.length ps m.length (List.replicate KK false) = N at *; obtain ⟨FL, hFL⟩ : ∃ FL, FL = (List.range KK).map (fst F) := ⟨_, rfl⟩; have HFLL : Hid (FL.length = KK) := Lib.hid (by rw [hFL, List.length_map, List.length_range])
 rw [← hFL] at HFI ⊢; clear hg hf hF hK hFL
 go_enter Tryd.func71, Tryd.ntmps71
 go_wp2_with ((with_reducible refine gate_ (.load 51 (.tmp 1)) rfl ?_); refine Hid.out ?_)
 refine Lib.hid ?_; generalize w.alloc (.cells #[.slice A l.length c, .slice B m.length d, .slice C ps.length e] 51) = V0 at *; have x0 := zaa HX0.out 0; have x1 := zaa HX0.out 1; have x2 := zaa HX0.out 2; simp at x0 x1 x2; have hgs := zba HX0.out
 go_wp2_with ((with_reducible refine Bld.gateN_ 9 rfl ?_); refine Hid.out ?_)
 refine Lib.hid ?_; clear x0 x1 x2; have hb := zac (Below.refl V0.heap.size V0) (.cells #[.slice A l.length c, .slice B m.length d, .slice C ps.length e, .slice none 0 0, .slice none 0 0, .slice none 0 0, .int .i64 0] 236); have HX := Lib.hid (zak HX0.out hb); have HB := Lib.hid (zam HB0.out hb); have HK := Lib.hid (zau V0 (.cells #[.slice A l.length c, .slice B m.length d, .slice C ps.length e, .slice none 0 0, .slice none 0 0, .slice none 0 0, .int .i64 0] 236)); clear hb HX0 HB0; generalize V0.alloc (.cells #[.slice A l.length c, .slice B m.length d, .slice C ps.length e, .slice none 0 0, .slice none 0 0, .slice none 0 0, .int .i64 0] 236) = V1 at *; generalize V0.heap.size = b at *; have x0 := zaa HX.out 0; have x1 := zaa HX.out 1; have x2 := zaa HX.out 2; simp at x0 x1 x2
 go_wp2_with (go_at_call 103; refine Hid.out ?_)
 refine Lib.hid ?_; refine (HNU.out V1 HB.out).mono ?_; rintro e2 V2 ⟨nb, rfl, hnb, hb, hnc⟩; have HX2 := Lib.hid (zak HX.out hb); have HB2 := Lib.hid (zam HB.out hb); have HK2 := Lib.hid (zak HK.out hb); have HN2 := Lib.hid hnc; have hsz := HB.out.size; have hnw : w.heap.size ≤ nb := by omega
 clear hb hnc HX HB HK HNU x0 x1 x2 hnb hsz; have k3 := zaa HK2.out 3; have k3f := zae HK2.out 3; simp at k3
 go_wp2_with ((with_reducible refine gate_ (.load 51 (.tmp 1)) rfl ?_); refine Hid.out ?_)
 refine Lib.hid ?_; have hbn : nb ≠ b := ne_type HN2.out HK2.out (by decide)
 have HX3 := Lib.hid (zar HX2.out (p := ⟨b, 3, none⟩) (show w.heap.size ≠ b by omega) (.slice (some ⟨nb, 0, none⟩) KK KK))
 have HB3 := Lib.hid (zaf (j := 3) (v := .slice (some ⟨nb, 0, none⟩) KK KK) HB2.out (show w.heap.size ≤ b by omega))
 have HN3 := Lib.hid (zar HN2.out (p := ⟨b, 3, none⟩) hbn (.slice (some ⟨nb, 0, none⟩) KK KK)); have HK3 := Lib.hid (zat (cs' := #[.slice A l.length c, .slice B m.length d, .slice C ps.length e, .slice (some ⟨nb, 0, none⟩) KK KK, .slice none 0 0, .slice none 0 0, .int .i64 0]) HK2.out 3 (.slice (some ⟨nb, 0, none⟩) KK KK) rfl); clear HX2 HB2 HN2 HK2 k3 k3f; generalize V2.setCell ⟨b, 3, none⟩ (.slice (some ⟨nb, 0, none⟩) KK KK) = V3 at *; have x0 := zaa HX3.out 0; have x1 := zaa HX3.out 1; have x2 := zaa HX3.out 2; simp at x0 x1 x2
 go_wp2_with (go_at_call 104; refine Hid.out ?_)
 refine Lib.hid ?_; refine (HFI.out V3 HB3.out).mono ?_; rintro e4 V4 ⟨v, rfl, hfr, hb⟩; obtain ⟨Af, cf, ev, -, -⟩ := Kd.zbb hfr; rw [HFLL.out] at ev; subst ev; have HX4 := Lib.hid (zak HX3.out hb); have HB4 := Lib.hid (zam HB3.out hb); have HN4 := Lib.hid (zak HN3.out hb); have HK4 := Lib.hid (zak HK3.out hb); have HF4 := Lib.hid (Kd.R_lower hfr HB3.out.size); clear hb hfr HX3 HB3 HN3 HK3 HFI x0 x1 x2; have k4 := zaa HK4.out 4; have k4f := zae HK4.out 4; simp at k4
 go_wp2_with fail
 have HX5 := Lib.hid (zar HX4.out (p := ⟨b, 4, none⟩) (show w.heap.size ≠ b by omega) (.slice Af KK cf))
 have HB5 := Lib.hid (zaf (j := 4) (v := .slice Af KK cf) HB4.out (show w.heap.size ≤ b by omega))
 have HN5 := Lib.hid (zar HN4.out (p := ⟨b, 4, none⟩) hbn (.slice Af KK cf)); have HK5 := Lib.hid (zat (cs' := #[.slice A l.length c, .slice B m.length d, .slice C ps.length e, .slice (some ⟨nb, 0, none⟩) KK KK, .slice Af KK cf, .slice none 0 0, .int .i64 0]) HK4.out 4 (.slice Af KK cf) rfl); have HF5 := Lib.hid (Kd.zbp HF4.out HK4.out (by decide) 4 (.slice Af KK cf))
 clear HX4 HB4 HN4 HK4 HF4 k4 k4f; generalize V4.setCell ⟨b, 4, none⟩ (.slice Af KK cf) = V5 at *; have HA5 : Hid (kN.R 3 V5 w.heap.size tru (.slice none 0 0) (atS 0 (ps.take 0))) := Lib.hid (Kd.R_nil _ _ _ _ _)
 go_loopw [4] (fun v4 w' => ∃ (i : Nat) (Aa : Option Addr) (ca : Nat), v4 = .int .i64 (i : Int) ∧ i ≤ ps.length ∧ Hid (w'.heap[b]? = some (.cells #[.slice A l.length c, .slice B m.length d, .slice C ps.length e, .slice (some ⟨nb, 0, none⟩) KK KK, .slice Af KK cf, .slice Aa i ca, .int .i64 ((dots (ps.take i) : Nat) : Int)] 236 (0, 0))) ∧ Hid (kN.R 3 w' w.heap.size tru (.slice Aa i ca) (atS 0 (ps.take i))) ∧ Hid (kU.R 128 w' w.heap.size tru (.slice Af KK cf) FL) ∧ Hid (w'.heap[nb]? = some (.cells (bl N) 4 (0, 0))) ∧ Hid (Below w.heap.size w w') ∧ Hid (w'.heap[w.heap.size]? = some (Obj.cells #[.slice A l.length c, .slice B m.length d, .slice C ps.length e] 51 (0, 0)))) (fun v4 _ => ps.length - (intOf v4).toNat)
 case atStart => exact ⟨0, none, 0, rfl, Nat.zero_le _, HK5, HA5, HF5, HN5, HB5, HX5⟩
 case round =>
  clear HK5 HA5 HF5 HN5 HB5 HX5; obtain ⟨i, Aa, ca, rfl, hi, HK, HA, HF, HN, HB, HX⟩ := hrel; have x2 := zaa HX.out 2; simp at x2; by_cases hil : i < ps.length
  ·have hib : decide ((i : Int) < (ps.length : Int)) = true := decide_eq_true (by omega)
   have hi0 : (0 : Int) ≤ (i : Int) := Int.natCast_nonneg _; have hi1 : (i : Int) < (ps.length : Int) := by omega
   have hiw : IntKind.i64.wrap ((i : Int) + 1) = (i : Int) + 1 := IntWalk.i64_in _ (by omega)
   have hi2 : i + 1 ≤ ps.length := hil; have hme : ps.length - (i + 1) < ps.length - i := by omega
   obtain ⟨adp, Ap, cp, hC, p0, p1, hcp, hrp⟩ := at_T77 (Kd.zav HG.out.hC HB.out) (i : Int) hi0 hi1; rw [Int.toNat_natCast] at p0 p1; subst hC; have HPR0 : Hid (∀ W, Below w.heap.size w W → ∃ Aq cq, W.cell? ⟨(adp.add (i * 2)).block, (adp.add (i * 2)).off + 1, none⟩ = some (.slice Aq (zal ps (i : Int)).f1.length cq)) := Lib.hid (fun W hb => by
    obtain ⟨ad2, A1, c1, e1, -, g1, -, -⟩ := at_T77 (Kd.zav HG.out.hC hb) (i : Int) hi0 hi1; injection e1 with e1; subst e1; rw [Int.toNat_natCast] at g1; exact ⟨A1, c1, g1⟩)
   have hmem : zal ps (i : Int) ∈ ps := rd77_mem hil; have hat : atS 0 (ps.take (i + 1)) = atS 0 (ps.take i) ++ [dots (ps.take i)] := by
    rw [take_snoc77 hil, atS_snoc, Nat.zero_add]
   have hdt : dots (ps.take (i + 1)) = dots (ps.take i) + ((zal ps (i : Int)).f1.length + 1) := by rw [take_snoc77 hil, dots_snoc]
   have hd1 := dots_take ps i; have hd2 := dots_take ps (i + 1); have hal : (atS 0 (ps.take i)).length = i := by rw [atS_len, List.length_take]; omega
   have HAL := Lib.hid hal; generalize zal ps (i : Int) = pr at *; generalize pr.f1 = prow at *; obtain ⟨n, hn⟩ : ∃ n, n = dots (ps.take i) := ⟨_, rfl⟩; have HAT := Lib.hid hat; have HDT := Lib.hid hdt; rw [← hn] at HK HAT HDT hdt hd1; have hw1 : IntKind.i64.wrap ((n : Int) + (prow.length : Int)) = ((n + prow.length : Nat) : Int) := by rw [IntWalk.i64_in _ (by omega)]; omega
   have hw2 : IntKind.i64.wrap (((n + prow.length : Nat) : Int) + 1) = ((n + (prow.length + 1) : Nat) : Int) := by rw [IntWalk.i64_in _ (by omega)]; omega
   have hw3 : IntKind.i64.wrap ((n : Int) + (prow.length : Int) + 1) = ((n + (prow.length + 1) : Nat) : Int) := by rw [IntWalk.i64_in _ (by omega)]; omega
   have hbo : ((atS 0 (ps.take i)).length + 1) * 8 ≤ 140737488355328 := by rw [hal]; omega
   clear hat hdt hn hmem hal
   go_wp2_with fail
   have hmx : Tryd.prog.follows .mixedOrders = true := by kernel_rfl
   clear x2; have HK1 := Lib.hid (zad (zah HK.out) (.cells #[.int .i64 (n : Int)] 3)); have HA1 := Lib.hid (Kd.zbk (Kd.R_drew HA.out) (.cells #[.int .i64 (n : Int)] 3)); have HF1 := Lib.hid (Kd.zbk (Kd.R_drew HF.out) (.cells #[.int .i64 (n : Int)] 3)); have HN1 := Lib.hid (zad (zah HN.out) (.cells #[.int .i64 (n : Int)] 3)); have HX1 := Lib.hid (zad (zah HX.out) (.cells #[.int .i64 (n : Int)] 3)); have HB1 := Lib.hid (zac (zaw HB.out) (.cells #[.int .i64 (n : Int)] 3)); have HL1 := Lib.hid (C_lit1 (k := kN) (x := n) (cs := [.int .i64 (n : Int)]) rfl (zau wr.drew (.cells #[.int .i64 (n : Int)] 3))); refine start_ (n := 14) (S := fun w' => w'.cell? ⟨b, 5, none⟩ = some (.slice Aa i ca) ∧ w'.cell? ⟨b, 6, none⟩ = some (.int .i64 (n : Int))) (ds := [13]) #[false, false, false, false, false, false, false, false, false, false, false, false, false, false] (by kernel_rfl) rfl rfl ⟨zaa (zah HK.out) 5, zaa (zah HK.out) 6⟩ (fun hHeld => ?_)
   refine pe_ 0 (some 25) ?_ ?_ ?_ ?_ ?_; rotate_left
   ·intro w'; go_simp
    with_reducible rfl
   rotate_left
   ·simp only [nm_]; rfl
   refine pe_ 1 (some 26) ?_ ?_ ?_ ?_ ?_; rotate_left
   ·intro w'; go_simp
    with_reducible rfl
   rotate_left
   ·simp only [nm_]; rfl
   refine pe_ 2 (some 27) ?_ ?_ ?_ ?_ ?_; rotate_left
   ·intro w'; go_simp
    with_reducible rfl
   rotate_left
   ·simp only [nm_]; rfl
   refine pe_ 3 (some 28) ?_ ?_ ?_ ?_ ?_; rotate_left
   ·intro w'; go_simp
    with_reducible rfl
   rotate_left
   ·simp only [nm_]; rfl
   refine pe_ 5 (some 30) ?_ ?_ ?_ ?_ ?_; rotate_left
   ·intro w'; go_simp
    with_reducible rfl
   rotate_left
   ·simp only [nm_]; rfl
   refine pe_ 6 (some 31) ?_ ?_ ?_ ?_ ?_; rotate_left
   ·intro w'; go_simp
    with_reducible rfl
   rotate_left
   ·simp only [nm_]; rfl
   refine pe_ 7 (some 32) ?_ ?_ ?_ ?_ ?_; rotate_left
   ·intro w'; go_simp
    with_reducible rfl
   rotate_left
   ·simp only [nm_]; rfl
   refine te_ 4 (some 29) hHeld ?_ ?_ ?_ ?_ ?_; rotate_left
   ·rintro w' ⟨s0, s1⟩; go_simp
    with_reducible rfl
   rotate_left
   ·simp only [nm_]; rfl
   refine te_ 8 (some 33) hHeld ?_ ?_ ?_ ?_ ?_; rotate_left
   ·rintro w' ⟨s0, s1⟩; go_simp
    with_reducible rfl
   rotate_left
   ·simp only [nm_]; rfl
   refine ou_ (i := 9) (N := some 34) rfl rfl (by kernel_rfl) (by decide) (fun K hK => ?_)
   refine value_ (w1 := ?_) (v := ?_) (by rfl) rfl ?_ ?_
   rotate_left 2
   ·go_simp; constructor
    ·rfl
    ·rfl
   refine hK.out _ _ ⟨zaa HK1.out 5, zaa HK1.out 6⟩ (fun hHeld => ?_)
   clear hK K; refine norm_ (a' := ?_) ?_ ?_; rotate_left
   ·show Act.put _ (some 34) _ = _; simp only [nm_]; rfl
   refine ou_ (i := 10) (N := some 35) rfl rfl (by kernel_rfl) (by decide) (fun K hK => ?_)
   refine Kd.R_append_rows_step kN (w0 := w) w.heap.size (by rfl) (.tmp 29) (.tmp 34) 95 3 (.int .i64 0) 8 rfl Tryd.underlying95 Bld.info3 rfl (by decide) (by decide) _ (atS 0 (ps.take i)) [n] (some ⟨_, 0, none⟩) 1 1 tru (fun _ => False) rfl rfl HA1.out HL1.out (fun _ _ h => h) (fun _ h => h.elim) (fun _ _ => trivial) HB1.out HB1.out.size hbo ?_
   intro v7 w7 ho7 hb7 hg7 hat7; obtain ⟨A7, c7, hv7, -, -⟩ := Kd.zbb ho7; generalize hl7 : (atS 0 (ps.take i) ++ [n]).length = l7 at hv7; have HL7 := Lib.hid hl7; subst hv7; clear hl7; have hfz7 := zae (zas HK1.out hg7 (Kd.R_ne HA1.out HK1.out (by decide))) 5
   refine hK.out _ _ ⟨zaa (zas HK1.out hg7 (Kd.R_ne HA1.out HK1.out (by decide))) 5, zaa (zas HK1.out hg7 (Kd.R_ne HA1.out HK1.out (by decide))) 6⟩ (fun hHeld => ?_)
   clear hK K; refine norm_ (a' := ?_) ?_ ?_; rotate_left
   ·show Act.put _ (some 35) _ = _; simp only [nm_]; rfl
   refine pe_ 11 (some 36) ?_ ?_ ?_ ?_ ?_; rotate_left
   ·intro w'; go_simp
    with_reducible rfl
   rotate_left
   ·simp only [nm_]; rfl
   refine pe_ 12 (some 37) ?_ ?_ ?_ ?_ ?_; rotate_left
   ·intro w'; go_simp
    with_reducible rfl
   rotate_left
   ·simp only [nm_]; rfl
   refine lu_ (i := 13) (N := none) rfl rfl (by kernel_rfl) (by decide) (fun K hK => ?_)
   refine skip_ (w1 := ?_) (by rfl) rfl ?_ ?_
   rotate_left
   ·go_simp; rfl
   refine hK.out _ _ ?_; clear hK K; refine done_ (by kernel_rfl) ?_
   have hk7 := zas HK1.out hg7 (Kd.R_ne HA1.out HK1.out (by decide))
   have HK8 := Lib.hid (zat (cs' := #[.slice A l.length c, .slice B m.length d, .slice (some adp) ps.length e, .slice (some ⟨nb, 0, none⟩) KK KK, .slice Af KK cf, .slice A7 l7 c7, .int .i64 (n : Int)]) hk7 5 (.slice A7 l7 c7) rfl); have HA8 := Lib.hid (Kd.zbp ho7 hk7 (by decide) 5 (.slice A7 l7 c7))
   have HF8 := Lib.hid (Kd.zbp (Kd.zbn HF1.out HA1.out (by decide) hg7) hk7 (by decide) 5 (.slice A7 l7 c7))
   have HN8 := Lib.hid (zar (zas HN1.out hg7 (Kd.R_ne HA1.out HN1.out (by decide))) (p := ⟨b, 5, none⟩) hbn (.slice A7 l7 c7))
   have HX8 := Lib.hid (zar (zas HX1.out hg7 (Kd.R_ne HA1.out HX1.out (by decide))) (p := ⟨b, 5, none⟩) (show w.heap.size ≠ b by omega) (.slice A7 l7 c7))
   have HB8 := Lib.hid (zaf (j := 5) (v := .slice A7 l7 c7) hb7 (show w.heap.size ≤ b by omega))
   have hl7 : l7 = i + 1 := by rw [← HL7.out, List.length_append, HAL.out]; rfl
   subst hl7; rw [← HAT.out] at HA8; clear hk7 ho7 hb7 hg7 hat7 hfz7 HK1 HA1 HF1 HN1 HX1 HB1 HL1 HK HA HF HN HX HB p0 p1 hrp HL7
   try clear z0
   go_wp2_with fail
   generalize w7.setCell ⟨b, 5, none⟩ (.slice A7 (i + 1) c7) = W8 at *; obtain ⟨Aq, cq, q1⟩ := HPR0.out W8 HB8.out; have z6f := zae HK8.out 6; refine start_ (n := 17) (S := fun w' => w'.cell? ⟨b, 6, none⟩ = some (.int .i64 (n : Int)) ∧ w'.cell? ⟨w.heap.size, 2, none⟩ = some (.slice (some adp) ps.length e) ∧ w'.cell? ⟨(adp.add (i * 2)).block, (adp.add (i * 2)).off + 1, none⟩ = some (.slice Aq prow.length cq)) (ds := [16]) #[false, false, false, false, false, false, false, false, false, false, false, false, false, false, false, false, false] (by kernel_rfl) rfl rfl ⟨zaa (zah HK8.out) 6, zaa (zah HX8.out) 2, zan (zaw (Below.refl _ _)) q1⟩ (fun hHeld => ?_)
   refine pe_ 0 (some 38) ?_ ?_ ?_ ?_ ?_; rotate_left
   ·intro w'; go_simp
    with_reducible rfl
   rotate_left
   ·simp only [nm_]; rfl
   refine pe_ 1 (some 39) ?_ ?_ ?_ ?_ ?_; rotate_left
   ·intro w'; go_simp
    with_reducible rfl
   rotate_left
   ·simp only [nm_]; rfl
   refine pe_ 2 (some 40) ?_ ?_ ?_ ?_ ?_; rotate_left
   ·intro w'; go_simp
    with_reducible rfl
   rotate_left
   ·simp only [nm_]; rfl
   refine pe_ 3 (some 41) ?_ ?_ ?_ ?_ ?_; rotate_left
   ·intro w'; go_simp
    with_reducible rfl
   rotate_left
   ·simp only [nm_]; rfl
   refine pe_ 5 (some 43) ?_ ?_ ?_ ?_ ?_; rotate_left
   ·intro w'; go_simp
    with_reducible rfl
   rotate_left
   ·simp only [nm_]; rfl
   refine pe_ 7 (some 45) ?_ ?_ ?_ ?_ ?_; rotate_left
   ·intro w'; go_simp
    with_reducible rfl
   rotate_left
   ·simp only [nm_]; rfl
   refine te_ 4 (some 42) hHeld ?_ ?_ ?_ ?_ ?_; rotate_left
   ·rintro w' ⟨s0, s1, s2⟩; go_simp
    with_reducible rfl
   rotate_left
   ·simp only [nm_]; rfl
   refine te_ 6 (some 44) hHeld ?_ ?_ ?_ ?_ ?_; rotate_left
   ·rintro w' ⟨s0, s1, s2⟩; go_simp
    with_reducible rfl
   rotate_left
   ·simp only [nm_]; rfl
   refine pe_ 8 (some 46) ?_ ?_ ?_ ?_ ?_; rotate_left
   ·intro w'; go_simp
    with_reducible rfl
   rotate_left
   ·simp only [nm_]; rfl
   refine pe_ 9 (some 47) ?_ ?_ ?_ ?_ ?_; rotate_left
   ·intro w'; go_simp
    with_reducible rfl
   rotate_left
   ·simp only [nm_]; rfl
   refine te_ 10 (some 48) hHeld ?_ ?_ ?_ ?_ ?_; rotate_left
   ·rintro w' ⟨s0, s1, s2⟩; go_simp
    with_reducible rfl
   rotate_left
   ·simp only [nm_]; rfl
   refine pe_ 11 (some 49) ?_ ?_ ?_ ?_ ?_; rotate_left
   ·intro w'; go_simp
    with_reducible rfl
   rotate_left
   ·simp only [nm_]; rfl
   refine pe_ 12 (some 50) ?_ ?_ ?_ ?_ ?_; rotate_left
   ·intro w'; go_simp
    with_reducible rfl
   rotate_left
   ·simp only [nm_]; rfl
   refine pe_ 13 (some 51) ?_ ?_ ?_ ?_ ?_; rotate_left
   ·intro w'; go_simp
    with_reducible rfl
   rotate_left
   ·simp only [nm_]; rfl
   refine pe_ 14 (some 52) ?_ ?_ ?_ ?_ ?_; rotate_left
   ·intro w'; go_simp
    with_reducible rfl
   rotate_left
   ·simp only [nm_]; rfl
   refine pe_ 15 (some 53) ?_ ?_ ?_ ?_ ?_; rotate_left
   ·intro w'; go_simp
    with_reducible rfl
   rotate_left
   ·simp only [nm_]; rfl
   refine lu_ (i := 16) (N := none) rfl rfl (by kernel_rfl) (by decide) (fun K hK => ?_)
   refine skip_ (w1 := ?_) (by rfl) rfl ?_ ?_
   rotate_left
   ·go_simp; rfl
   refine hK.out _ _ ?_; clear hK K; refine done_ (by kernel_rfl) ?_
   go_simp
   go_wp2_with fail
   have HE : Hid ((n : Int) + ((prow.length : Int) + 1) = ((dots (ps.take (i + 1)) : Nat) : Int)) := Lib.hid (by rw [HDT.out]; omega)
   have HK9 := Lib.hid (zah (zat (cs' := #[.slice A l.length c, .slice B m.length d, .slice (some adp) ps.length e, .slice (some ⟨nb, 0, none⟩) KK KK, .slice Af KK cf, .slice A7 (i + 1) c7, .int .i64 ((dots (ps.take (i + 1)) : Nat) : Int)]) HK8.out 6 (.int .i64 ((n : Int) + ((prow.length : Int) + 1))) (by rw [HE.out]; rfl)))
   have HA9 := Lib.hid (Kd.R_drew (Kd.zbp HA8.out HK8.out (by decide) 6 (.int .i64 ((n : Int) + ((prow.length : Int) + 1)))))
   have HF9 := Lib.hid (Kd.R_drew (Kd.zbp HF8.out HK8.out (by decide) 6 (.int .i64 ((n : Int) + ((prow.length : Int) + 1)))))
   have HN9 := Lib.hid (zah (zar HN8.out (p := ⟨b, 6, none⟩) hbn (.int .i64 ((n : Int) + ((prow.length : Int) + 1))))); have HX9 := Lib.hid (zah (zar HX8.out (p := ⟨b, 6, none⟩) (show w.heap.size ≠ b by omega) (.int .i64 ((n : Int) + ((prow.length : Int) + 1)))))
   have HB9 := Lib.hid (zaw (zaf (j := 6) (v := (.int .i64 ((n : Int) + ((prow.length : Int) + 1)))) HB8.out (show w.heap.size ≤ b by omega)))
   go_roundw
   case rel => first | exact ⟨i + 1, A7, c7, by rw [Int.natCast_add]; rfl, hi2, HK9, HA9, HF9, HN9, HB9, HX9⟩ | ((repeat apply Exists.intro); exact ⟨⟨i + 1, A7, c7, by rw [Int.natCast_add]; rfl, hi2, HK9, HA9, HF9, HN9, HB9, HX9⟩, rfl⟩) | (rw [HDT.out] at *; exact ⟨i + 1, A7, c7, by rw [Int.natCast_add]; rfl, hi2, HK9, HA9, HF9, HN9, HB9, HX9⟩)
   case measure => exact hme
  ·have hib : decide ((i : Int) < (ps.length : Int)) = false := decide_eq_false (by omega)
   have hie : i = ps.length := by omega
   subst hie; rw [List.take_length] at HK HA; obtain ⟨-, -, hA⟩ := Kd.zbh HA.out; obtain ⟨hn1, -, hFc⟩ := Kd.zbh HF.out; rw [← hn1] at hFc; rw [atS_len] at hA; have HAc := Lib.hid hA; have HFc := Lib.hid hFc; clear hA hFc hn1
   go_wp2_with fail
   go_ret; exact ⟨b, nb, Af, cf, Aa, ca, rfl, ⟨HK.out, HG.out.below HB.out, HN.out, HFc.out, HAc.out⟩, HB.out⟩
theorem ofS_lk (F : List Nat) (V : List Bool) : ∀ (l : List S110) (out : Nat), ofS F V out l = (out ||| (lk F V l).1, (lk F V l).2)
 | [], out => by simp [ofS, lk]
 | r :: l, out => by
  unfold ofS lk; by_cases h : van V r.f0.toNat = true
  ·rw [if_pos h, ofS_lk F V l, Nat.or_assoc]; simp only [h, if_true, Bool.true_and]
  ·rw [if_neg h]; have h2 : van V r.f0.toNat = false := by simpa using h
   simp only [h2, Bool.false_and]; rfl
def looksD (F : List Nat) (V : List Bool) (row : List S110) (x : Nat) : Nat := if (lk F V row).2 = true then (lk F V row).1 ||| x else (lk F V row).1
theorem looksD_of {F : List Nat} {V : List Bool} {row : List S110} {x : Nat} : looksD F V row x = if (ofS F V 0 row).2 = true then (ofS F V 0 row).1 ||| x else (ofS F V 0 row).1 := by
 rw [ofS_lk, Nat.zero_or]; rfl
set_option maxRecDepth 100000 in
set_option maxHeartbeats 4000000 in
theorem looks_any {w : World} {b : Nat} {A : Option Addr} {c : Nat} {l : List S112} {B : Option Addr} {d : Nat} {m : List S115} {C : Option Addr} {e : Nat} {ps : List S77} {KK nb : Nat} {N : List Bool} {Af : Option Addr} {cf : Nat} {FL : List Nat} {Aa : Option Addr} {ca : Nat} (h : DB w b A c l B d m C e ps KK nb N Af cf FL Aa ca)
  (F : List Nat) (V : List Bool) (hFL : FL = (List.range KK).map (fst F)) (hFt : ∀ x ∈ F, x < zbi) (hNl : N.length = KK) (hN : ∀ k, van N k = van V k) (Ar : Option Addr) (cr : Nat) (row : List S110) (hR : k110.C w Ar row.length row) (hrl : row.length ≤ 1048576) (hrr : ∀ r ∈ row, 0 ≤ r.f0 ∧ r.f0 < (KK : Int)) (x : Nat) (hx : x < zbi) :
  Calls Tryd.prog 107 #[.pointer (some ⟨b, 0, none⟩), .slice Ar row.length cr, .int .u64 (x : Int)] w fun e' w' => e' = .returned (.int .u64 ((looksD F V row x : Nat) : Int)) ∧ Below w.heap.size w w' := by
 have HD := Lib.hid h; have HR := Lib.hid hR; have HRR := Lib.hid hrr; have HN := Lib.hid hN; have HFT := Lib.hid hFt; have HFL := Lib.hid hFL; have HNL := Lib.hid hNl; have HX := Lib.hid hx; have HFN : Hid (FL.length = KK) := Lib.hid (by rw [hFL, List.length_map, List.length_range])
 clear h hR hrr hN hFt hFL hNl hx
 go_enter Tryd.func107, Tryd.ntmps107
 go_wp2_with fail
 have HO0 : Hid (ofS F V 0 (row.drop 0) = ofS F V 0 row) := Lib.hid (by rw [List.drop_zero])
 go_loopw [7, 8] (fun v7 v8 w' => ∃ (i acc : Nat), v7 = .int .u64 (acc : Int) ∧ v8 = .int .i64 (i : Int) ∧ i ≤ row.length ∧ Hid (ofS F V acc (row.drop i) = ofS F V 0 row) ∧ Hid (acc < zbi) ∧ Hid (Below w.heap.size w w')) (fun v7 v8 _ => row.length - (intOf v8).toNat)
 case atStart => exact ⟨0, 0, rfl, rfl, Nat.zero_le _, HO0, Lib.hid (by decide), Lib.hid (Below.refl _ _)⟩
 case round =>
  clear HO0; obtain ⟨i, acc, rfl, rfl, hi, HO, HAC, HB⟩ := hrel; have k3 := zaa (zak HD.out.bk HB.out) 3; have k4 := zaa (zak HD.out.bk HB.out) 4; simp at k3 k4; by_cases hil : i < row.length
  ·have hib : decide ((i : Int) < (row.length : Int)) = true := decide_eq_true (by omega)
   have hi0 : (0 : Int) ≤ (i : Int) := Int.natCast_nonneg _; have hi1 : (i : Int) < (row.length : Int) := by omega
   have hiw : IntKind.i64.wrap ((i : Int) + 1) = (i : Int) + 1 := IntWalk.i64_in _ (by omega)
   have hi2 : i + 1 ≤ row.length := hil; have hme : row.length - (i + 1) < row.length - i := by omega
   obtain ⟨adr, rfl, r0, -⟩ := zbm (Kd.zav HR.out HB.out) (i : Int) hi0 hi1; rw [Int.toNat_natCast] at r0; have hrm := HRR.out _ (rd110_mem hil); have hst := HO.out; rw [ofS_drop hil] at hst; obtain ⟨y, hy⟩ := Int.eq_ofNat_of_zero_le hrm.1; rw [hy, Int.toNat_natCast] at hst; rw [hy] at r0 hrm; have hyK : y < KK := by omega
   have hy0 : (0 : Int) ≤ (y : Int) := Int.natCast_nonneg _; have hy1 : (y : Int) < (KK : Int) := by omega
   obtain ⟨adf, rfl, f0⟩ := at_U (Kd.zav HD.out.f HB.out) hyK; have hfy : fst FL y = fst F y := by
    rw [HFL.out]; show ((List.range KK).map (fst F)).getD y 0 = fst F y; rw [List.getD_eq_getElem?_getD, List.getElem?_map, List.getElem?_range hyK]; rfl
   rw [hfy] at f0; have nz := (zaa (zak HD.out.n HB.out) y).trans (bl_get (by rw [HNL.out]; exact hyK))
   rw [HN.out] at nz; have hflt := fst_lt HFT.out y; have hor := u64_or_nat acc (fst F y) HAC.out hflt; have HAC2 : Hid (acc ||| fst F y < zbi) := Lib.hid (or_lt HAC.out hflt); have HST := Lib.hid hst; clear hy hfy hst hflt; generalize fst F y = fy at *; cases hvy : van V y with
   | true =>
    have HST2 : Hid (ofS F V (acc ||| fy) (row.drop (i + 1)) = ofS F V 0 row) := Lib.hid (by
     have h := HST.out; rw [if_pos hvy] at h; exact h)
    rw [hvy] at nz; clear hvy
    go_wp2_with fail
    refine wp_region_quiet_lit (by kernel_rfl) (by kernel_rfl) ?_
    repeat (go_big_quiet_step (fail))
    refine wpQuiet_nil ?_; intro _ hw1; obtain ⟨nq, hw2⟩ := hw1; subst hw2; have HB2 := Lib.hid (zab HB.out nq)
    go_wp2_with fail
    refine wp_region_quiet_lit (by kernel_rfl) (by kernel_rfl) ?_
    repeat (go_big_quiet_step (fail))
    refine wpQuiet_nil ?_; intro _ hw3; obtain ⟨nr, hw4⟩ := hw3; subst hw4; have HB3 := Lib.hid (zab HB.out (nq + nr))
    go_wp2_with fail
    go_roundw
    case rel => first | exact ⟨i + 1, acc ||| fy, rfl, by rw [Int.natCast_add]; rfl, hi2, HST2, HAC2, HB3⟩ | ((repeat apply Exists.intro); exact ⟨⟨i + 1, acc ||| fy, rfl, by rw [Int.natCast_add]; rfl, hi2, HST2, HAC2, HB3⟩, rfl⟩)
    case measure => exact hme
   | false =>
    have HST2 : Hid (ofS F V 0 row = (acc ||| fy, false)) := Lib.hid (by
     have h := HST.out; rw [if_neg (by rw [hvy]; decide)] at h
     exact h.symm)
    rw [hvy] at nz; clear hvy
    go_wp2_with fail
    refine wp_region_quiet_lit (by kernel_rfl) (by kernel_rfl) ?_
    repeat (go_big_quiet_step (fail))
    refine wpQuiet_nil ?_; intro _ hw1; obtain ⟨nq, hw2⟩ := hw1; subst hw2; have HB2 := Lib.hid (zab HB.out nq)
    go_wp2_with fail
    refine wp_region_quiet_lit (by kernel_rfl) (by kernel_rfl) ?_
    repeat (go_big_quiet_step (fail))
    refine wpQuiet_nil ?_; intro _ hw3; obtain ⟨nr, hw4⟩ := hw3; subst hw4; have HB3 := Lib.hid (zab HB.out (nq + nr))
    go_wp2_with fail
    go_ret; exact ⟨by rw [looksD_of, HST2.out]; rfl, zab HB2.out nr⟩
  ·have hib : decide ((i : Int) < (row.length : Int)) = false := decide_eq_false (by omega)
   have HE : Hid (ofS F V 0 row = (acc, true)) := Lib.hid (by
    have h := HO.out; rw [List.drop_eq_nil_of_le (by omega)] at h
    exact h.symm)
   have hor := u64_or_nat acc x HAC.out HX.out
   go_wp2_with fail
   go_ret; exact ⟨by rw [looksD_of, HE.out]; rfl, HB.out⟩
end Doc
end Go.Proofs.YtcijanmckhlpiaaDoor
namespace Go.Proofs.YtcijanmckhlpiaaDoor
open Go.RowKit Go.Proofs.YtcijanmckhlpiaaDoor.PTableBuilds
namespace Doc
open Bld
def Sub (a b : List Nat) : Prop := ∀ n t, (fst a n).testBit t = true → (fst b n).testBit t = true
theorem Sub.refl (a : List Nat) : Sub a a := fun _ _ h => h
theorem Sub.trans {a b c : List Nat} (h : Sub a b) (h' : Sub b c) : Sub a c := fun n t x => h' n t (h n t x)
theorem Sub.nz {a b : List Nat} (h : Sub a b) {n : Nat} (hn : fst a n ≠ 0) : fst b n ≠ 0 := by
 intro e; apply hn; apply Nat.eq_of_testBit_eq; intro t; rw [Nat.zero_testBit]; cases hb : (fst a n).testBit t with
 | false => rfl
 | true => have := h n t hb; rw [e, Nat.zero_testBit] at this; exact this.symm
theorem Sub.eq {a b : List Nat} (h : Sub a b) (h' : Sub b a) (hl : a.length = b.length) : a = b := by
 apply List.ext_getElem hl; intro n h1 h2; have e1 : fst a n = a[n] := by unfold fst; rw [List.getD_eq_getElem?_getD, List.getElem?_eq_getElem h1]; rfl
 have e2 : fst b n = b[n] := by unfold fst; rw [List.getD_eq_getElem?_getD, List.getElem?_eq_getElem h2]; rfl
 rw [← e1, ← e2]; apply Nat.eq_of_testBit_eq; intro t; have a1 := h n t; have a2 := h' n t; cases c1 : (fst a n).testBit t <;> cases c2 : (fst b n).testBit t <;> simp_all
def CondAt (T : Nat) (sp : List S230) (of_ : List (List Nat)) (X : List Nat) (n : Nat) : Prop :=
 ¬ (rdSp sp n).f2 < (T : Int) → ∀ q ∈ rdOfs of_ ((rdSp sp n).f2 - T).toNat, ∀ t, (looksS sp X n).testBit t = true → (fst X q).testBit t = true
def ClosedS (T : Nat) (sp : List S230) (of_ : List (List Nat)) (X : List Nat) : Prop := ∀ n, fst X n ≠ 0 → CondAt T sp of_ X n
structure Least (T : Nat) (sp : List S230) (of_ : List (List Nat)) (S X : List Nat) : Prop where
 len : X.length = S.length
 above : Sub S X
 closed : ClosedS T sp of_ X
 least : ∀ Y, Sub S Y → ClosedS T sp of_ Y → Sub X Y
theorem Least.uniq {T : Nat} {sp : List S230} {of_ : List (List Nat)} {S X Y : List Nat} (h : Least T sp of_ S X) (h' : Least T sp of_ S Y) : X = Y :=
 Sub.eq (h.least Y h'.above h'.closed) (h'.least X h.above h.closed) (h.len.trans h'.len.symm)
theorem looks_mono {sp : List S230} {X Y : List Nat} (h : Sub X Y) (n t : Nat) (hb : (looksS sp X n).testBit t = true) : (looksS sp Y n).testBit t = true := by
 unfold looksS at *
 split at hb
 ·rename_i h1
  rw [if_pos h1]; rw [Nat.testBit_or, Bool.or_eq_true] at hb ⊢; exact hb.imp id (h n t)
 ·rename_i h1
  rw [if_neg h1]; exact hb
theorem looks_same {sp : List S230} {X Y : List Nat} {n : Nat} (h : fst X n = fst Y n) : looksS sp X n = looksS sp Y n := by
 unfold looksS; rw [h]
structure PutS (N : Nat) (l : List Nat) (x : Nat) (st st' : List Nat × List Nat) : Prop where
 len : st'.1.length = st.1.length
 up : Sub st.1 st'.1
 td : ∀ n ∈ st.2, n ∈ st'.2
 new : ∀ n, fst st'.1 n ≠ fst st.1 n → n ∈ st'.2
 put : ∀ q ∈ l, q < st.1.length → ∀ t, x.testBit t = true → (fst st'.1 q).testBit t = true
 nz : (∀ n ∈ st.2, fst st.1 n ≠ 0) → ∀ n ∈ st'.2, fst st'.1 n ≠ 0 ∨ st.1.length ≤ n
 bd : ∀ Y : List Nat, Sub st.1 Y → (∀ q ∈ l, ∀ t, x.testBit t = true → (fst Y q).testBit t = true) → Sub st'.1 Y
theorem sub_set {s : List Nat} {n x : Nat} : Sub s (s.set n (fst s n ||| x)) := fun k t h => by
 rw [fst_set]; by_cases hc : n = k ∧ n < s.length
 ·rw [if_pos hc, Nat.testBit_or, hc.1, h, Bool.true_or]
 ·rw [if_neg hc]; exact h
theorem or_self_bits {a x t : Nat} (h : a ||| x = a) (hb : x.testBit t = true) : a.testBit t = true := by
 rw [← h, Nat.testBit_or, hb, Bool.or_true]
theorem putS_one {s td : List Nat} {n x : Nat} (hn : n < s.length) : PutS s.length [n] x (s, td) (putS s td n x) := by
 unfold putS; by_cases h : fst s n ||| x = fst s n
 ·rw [if_pos h]; exact ⟨rfl, Sub.refl _, fun _ h => h, fun m hm => absurd rfl hm, fun q hq _ t ht => by rw [List.mem_singleton.1 hq]; exact or_self_bits h ht, fun hz m hm => .inl (hz m hm), fun Y hY _ => hY⟩
 ·rw [if_neg h]; have hne : fst s n ||| x ≠ 0 := fun e => h (by
   rw [e]; apply Eq.symm; apply Nat.eq_of_testBit_eq; intro t; rw [Nat.zero_testBit]; cases hb : (fst s n).testBit t with
   | false => rfl
   | true =>
    have := congrArg (fun z => z.testBit t) e
    simp only [Nat.testBit_or, hb, Bool.true_or, Nat.zero_testBit] at this; exact this)
  have self : fst (s.set n (fst s n ||| x)) n = fst s n ||| x := by rw [fst_set, if_pos ⟨rfl, hn⟩]
  refine ⟨List.length_set, sub_set, fun m hm => List.mem_append_left _ hm, fun m hm => ?_, fun q hq _ t ht => ?_, fun hz m hm => ?_, fun Y hY hl m t hb => ?_⟩
  ·by_cases e : n = m
   ·subst e; exact List.mem_append_right _ (by simp)
   ·exact absurd (by rw [fst_set, if_neg (fun c => e c.1)]) hm
  ·rw [List.mem_singleton.1 hq, self, Nat.testBit_or, ht, Bool.or_true]
  ·by_cases e : n = m
   ·subst e; left; rw [self]; exact hne
   ·rcases List.mem_append.1 hm with hm | hm
    ·left; rw [fst_set, if_neg (fun c => e c.1)]
     exact hz m hm
    ·exact absurd (List.mem_singleton.1 hm).symm e
  ·rw [fst_set] at hb; by_cases hc : n = m ∧ n < s.length
   ·rw [if_pos hc, Nat.testBit_or, Bool.or_eq_true] at hb; rcases hb with hb | hb
    ·rw [← hc.1]; exact hY n t hb
    ·rw [← hc.1]; exact hl n (by simp) t hb
   ·rw [if_neg hc] at hb; exact hY m t hb
theorem puts_all {x N : Nat} : ∀ (l : List Nat) (st : List Nat × List Nat), st.1.length = N → (∀ n ∈ l, n < N) → (∀ n ∈ st.2, fst st.1 n ≠ 0) →
  PutS N l x st (putsS l x st) ∧ ∀ n ∈ (putsS l x st).2, fst (putsS l x st).1 n ≠ 0
 | [], st, _, _, hz => ⟨⟨rfl, Sub.refl _, fun _ h => h, fun n h => absurd rfl h, fun q hq => (by cases hq), fun h n hn => .inl (h n hn), fun Y h _ => h⟩, hz⟩
 | n :: l, (s, td), hN, hl, hz => by
  have h1 := putS_one (td := td) (x := x) (show n < s.length by rw [hN]; exact hl n (by simp))
  have hz1 : ∀ m ∈ (putS s td n x).2, fst (putS s td n x).1 m ≠ 0 := fun m hm => by
   rcases h1.nz hz m hm with h | h
   ·exact h
   ·exfalso; have hm2 : m ∈ td ∨ m = n := by
     unfold putS at hm
     split at hm
     ·exact .inl hm
     ·rcases List.mem_append.1 hm with hm | hm
      ·exact .inl hm
      ·exact .inr (List.mem_singleton.1 hm)
    have hN' : s.length = N := hN; rcases hm2 with hm2 | hm2
    ·have := hz m hm2; apply this; show fst s m = 0; unfold fst; rw [List.getD_eq_getElem?_getD, List.getElem?_eq_none h]; rfl
    ·have := hl n (by simp)
     have h : s.length ≤ m := h; omega
  obtain ⟨h2, hz2⟩ := puts_all l (putS s td n x) (h1.len.trans hN) (fun m hm => hl m (by simp [hm])) hz1
  refine ⟨⟨h2.len.trans h1.len, h1.up.trans h2.up, fun m hm => h2.td m (h1.td m hm), fun m hm => ?_, fun q hq hlt t ht => ?_, fun _ m hm => .inl (hz2 m hm), fun Y hY hq => ?_⟩, hz2⟩
  ·by_cases e : fst (putS s td n x).1 m = fst s m
   ·exact h2.new m (fun e2 => hm (e2.trans e))
   ·exact h2.td m (h1.new m e)
  ·rcases List.mem_cons.1 hq with rfl | hq
   ·exact h2.up q t (h1.put q (by simp) hlt t ht)
   ·exact h2.put q hq (by rw [h1.len]; exact hlt) t ht
  ·exact h2.bd Y (h1.bd Y hY (fun q hq' t ht => hq q (by rw [List.mem_singleton.1 hq']; simp) t ht)) (fun q hq' => hq q (by simp [hq']))
structure Work (T : Nat) (sp : List S230) (of_ : List (List Nat)) (S : List Nat) (st : List Nat × List Nat) : Prop where
 len : st.1.length = S.length
 nz : ∀ n ∈ st.2, fst st.1 n ≠ 0
 above : Sub S st.1
 good : ∀ n, fst st.1 n ≠ 0 → n ∉ st.2 → CondAt T sp of_ st.1 n
 least : ∀ Y, Sub S Y → ClosedS T sp of_ Y → Sub st.1 Y
theorem closeN_least {T : Nat} {sp : List S230} {of_ : List (List Nat)} {S : List Nat} (hof : ∀ l ∈ of_, ∀ n ∈ l, n < S.length) : ∀ (k : Nat) (st : List Nat × List Nat) (r : List Nat), Work T sp of_ S st → closeN T sp of_ k st = some r → Least T sp of_ S r
 | 0, st, r, _, h => by simp [closeN] at h
 | k + 1, (s, todo), r, hw, h => by
  rcases List.eq_nil_or_concat todo with rfl | ⟨td, n, rfl⟩
  ·have e : s = r := by simpa [closeN] using h
   subst e; exact ⟨hw.len, hw.above, fun n hn => hw.good n hn (by simp), hw.least⟩
  ·rw [List.concat_eq_append] at h hw; simp only [closeN, List.getLast?_append, List.getLast?_singleton, Option.some_or, List.dropLast_concat] at h; have hnz : fst s n ≠ 0 := hw.nz n (by simp)
   split at h
   ·rename_i hT
    refine closeN_least hof k (s, td) r ⟨hw.len, fun m hm => hw.nz m (by simp [hm]), hw.above, fun m hm hnot => ?_, hw.least⟩ h
    by_cases e : m = n
    ·subst e; exact fun hc => absurd hT hc
    ·exact hw.good m hm (by simp [hnot, e])
   ·rename_i hT
    have hlq : ∀ q ∈ rdOfs of_ ((rdSp sp n).f2 - T).toNat, q < S.length := by
     intro q hq; by_cases hb : ((rdSp sp n).f2 - T).toNat < of_.length
     ·exact hof _ (rdOfs_mem hb) q hq
     ·unfold rdOfs at hq; rw [List.getD_eq_getElem?_getD, List.getElem?_eq_none (by omega)] at hq
      cases hq
    obtain ⟨hp, hz⟩ := puts_all (x := looksS sp s n) (N := S.length) (rdOfs of_ ((rdSp sp n).f2 - T).toNat) (s, td) hw.len hlq (fun m hm => hw.nz m (by simp [hm]))
    refine closeN_least hof k _ r ⟨hp.len.trans hw.len, hz, hw.above.trans hp.up, fun m hm hnot => ?_, fun Y hY hc => ?_⟩ h
    ·have e1 : fst (putsS (rdOfs of_ ((rdSp sp n).f2 - T).toNat) (looksS sp s n) (s, td)).1 m = fst s m := by
      apply Classical.byContradiction; intro hne; exact hnot (hp.new m hne)
     intro hTm q hq t ht; rw [looks_same e1] at ht; by_cases e : m = n
     ·subst e; exact hp.put q hq (by have := hlq q hq; have := hw.len; simp only at this ⊢; omega) t ht
     ·refine hp.up q t (hw.good m (by rw [← e1]; exact hm) ?_ hTm q hq t ht)
      simp only [List.mem_append, List.mem_singleton, e, or_false]; exact fun h2 => hnot (hp.td m h2)
    ·have hsY := hw.least Y hY hc; exact hp.bd Y hsY (fun q hq t ht => hc n (hsY.nz hnz) hT q hq t (looks_mono hsY n t ht))
def stepC (T : Nat) (sp : List S230) (of_ : List (List Nat)) (s : List Nat) (n : Nat) : List Nat := if fst s n = 0 ∨ (rdSp sp n).f2 < (T : Int) then s else (putsS (rdOfs of_ ((rdSp sp n).f2 - T).toNat) (looksS sp s n) (s, [])).1
def passC (T : Nat) (sp : List S230) (of_ : List (List Nat)) (l : List Nat) (s : List Nat) : List Nat := l.foldl (stepC T sp of_) s
def closeD (T : Nat) (sp : List S230) (of_ : List (List Nat)) : Nat → List Nat → Option (List Nat)
 | 0, _ => none
 | k + 1, s => if passC T sp of_ (List.range sp.length) s = s then some s else closeD T sp of_ k (passC T sp of_ (List.range sp.length) s)
theorem rdOfs_lt {of_ : List (List Nat)} {N : Nat} (hof : ∀ l ∈ of_, ∀ n ∈ l, n < N) (y : Nat) : ∀ q ∈ rdOfs of_ y, q < N := by
 intro q hq; by_cases hb : y < of_.length
 ·exact hof _ (rdOfs_mem hb) q hq
 ·unfold rdOfs at hq; rw [List.getD_eq_getElem?_getD, List.getElem?_eq_none (by omega)] at hq
  cases hq
section
variable {T N : Nat} {sp : List S230} {of_ : List (List Nat)}
theorem stepC_put (hof : ∀ l ∈ of_, ∀ n ∈ l, n < N) {s : List Nat} (hs : s.length = N) (n : Nat) : (stepC T sp of_ s n).length = N ∧ Sub s (stepC T sp of_ s n) ∧ (∀ Y, Sub s Y → ClosedS T sp of_ Y → Sub (stepC T sp of_ s n) Y) ∧ (stepC T sp of_ s n = s → fst s n ≠ 0 → CondAt T sp of_ s n) := by
 unfold stepC; by_cases h : fst s n = 0 ∨ (rdSp sp n).f2 < (T : Int)
 ·rw [if_pos h]; exact ⟨hs, Sub.refl _, fun Y hY _ => hY, fun _ hn hT => absurd hT (fun hc => by rcases h with h | h; exact hn h; exact hc h)⟩
 ·rw [if_neg h]; have h1 : fst s n ≠ 0 := fun e => h (.inl e)
  have h2 : ¬ (rdSp sp n).f2 < (T : Int) := fun e => h (.inr e)
  have hlq := rdOfs_lt hof ((rdSp sp n).f2 - T).toNat; obtain ⟨hp, -⟩ := puts_all (x := looksS sp s n) (N := N) (rdOfs of_ ((rdSp sp n).f2 - T).toNat) (s, []) hs hlq (fun m hm => by cases hm)
  refine ⟨hp.len.trans hs, hp.up, fun Y hY hc => hp.bd Y hY (fun q hq t ht => hc n (hY.nz h1) h2 q hq t (looks_mono hY n t ht)), fun e _ _ q hq t ht => ?_⟩
  have := hp.put q hq (by have := hlq q hq; simp only; omega) t ht
  rw [e] at this; exact this
theorem passC_put (hof : ∀ l ∈ of_, ∀ n ∈ l, n < N) : ∀ (l : List Nat) {s : List Nat}, s.length = N → (passC T sp of_ l s).length = N ∧ Sub s (passC T sp of_ l s) ∧ (∀ Y, Sub s Y → ClosedS T sp of_ Y → Sub (passC T sp of_ l s) Y) ∧ (passC T sp of_ l s = s → ∀ n ∈ l, fst s n ≠ 0 → CondAt T sp of_ s n)
 | [], s, hs => ⟨hs, Sub.refl _, fun _ h _ => h, fun _ n hn => (by cases hn)⟩
 | m :: l, s, hs => by
  obtain ⟨a1, a2, a3, a4⟩ := stepC_put (sp := sp) (T := T) hof hs m; obtain ⟨b1, b2, b3, b4⟩ := passC_put hof l a1; have e : passC T sp of_ (m :: l) s = passC T sp of_ l (stepC T sp of_ s m) := rfl; rw [e]; refine ⟨b1, a2.trans b2, fun Y hY hc => b3 Y (a3 Y hY hc) hc, fun he n hn hz => ?_⟩
  have e1 : stepC T sp of_ s m = s := Sub.eq (by rw [he] at b2; exact b2) a2 (by omega)
  rw [e1] at b4 he; rcases List.mem_cons.1 hn with rfl | hn
  ·exact a4 e1 hz
  ·exact b4 he n hn hz
theorem closeD_least (hof : ∀ l ∈ of_, ∀ n ∈ l, n < N) (hN : sp.length = N) {S : List Nat} (hS : S.length = N) : ∀ (k : Nat) (s r : List Nat), s.length = N → Sub S s → (∀ Y, Sub S Y → ClosedS T sp of_ Y → Sub s Y) → closeD T sp of_ k s = some r → Least T sp of_ S r
 | 0, s, r, _, _, _, h => by simp [closeD] at h
 | k + 1, s, r, hs, h1, h2, h => by
  obtain ⟨a1, a2, a3, a4⟩ := passC_put (sp := sp) (T := T) hof (List.range sp.length) hs; unfold closeD at h; by_cases he : passC T sp of_ (List.range sp.length) s = s
  ·rw [if_pos he] at h; cases h; refine ⟨hs.trans hS.symm, h1, fun n hn => ?_, h2⟩
   by_cases hlt : n < sp.length
   ·exact a4 he n (List.mem_range.2 hlt) hn
   ·exfalso; apply hn; unfold fst; rw [List.getD_eq_getElem?_getD, List.getElem?_eq_none (by omega)]; rfl
  ·rw [if_neg he] at h; exact closeD_least hof hN hS k _ r a1 (h1.trans a2) (fun Y hY hc => a3 Y (h2 Y hY hc) hc) h
end
theorem dig_ok : ∀ d : Fin 36, 48 ≤ dig d.1 ∧ dig d.1 ≤ 122 ∧ dig d.1 ≠ 58 := by decide +kernel
theorem dig_inj : ∀ d e : Fin 36, dig d.1 = dig e.1 → d = e := by decide +kernel
theorem dig_eq {u v : Nat} (hu : u < 36) (hv : v < 36) (h : dig u = dig v) : u = v := by
 have := dig_inj ⟨u, hu⟩ ⟨v, hv⟩ h; exact congrArg Fin.val this
theorem t36N_ne (k u : Nat) : t36N k u ≠ [] := by
 cases k with
 | zero => simp [t36N]
 | succ k => unfold t36N; split <;> simp
theorem t36N_inj : ∀ (k u v : Nat), u < 36 ^ (k + 1) → v < 36 ^ (k + 1) → t36N k u = t36N k v → u = v
 | 0, u, v, hu, hv, h => by
  simp only [t36N, List.cons.injEq, and_true] at h; exact dig_eq (by simpa using hu) (by simpa using hv) h
 | k + 1, u, v, hu, hv, h => by
  unfold t36N at h; by_cases h1 : u < 36
  ·by_cases h2 : v < 36
   ·rw [if_pos h1, if_pos h2] at h; injection h with h _; exact dig_eq h1 h2 h
   ·rw [if_pos h1, if_neg h2] at h; have := congrArg List.length h; have hne := t36N_ne k (v / 36); cases hx : t36N k (v / 36) with
    | nil => exact absurd hx hne
    | cons a b => rw [hx] at this; simp at this
  ·by_cases h2 : v < 36
   ·rw [if_neg h1, if_pos h2] at h; have := congrArg List.length h; have hne := t36N_ne k (u / 36); cases hx : t36N k (u / 36) with
    | nil => exact absurd hx hne
    | cons a b => rw [hx] at this; simp at this
   ·rw [if_neg h1, if_neg h2] at h; have hl : (t36N k (u / 36)).length = (t36N k (v / 36)).length := by
     have := congrArg List.length h
     simpa using this
    obtain ⟨e1, e2⟩ := List.append_inj h hl; injection e2 with e2 _; have p1 := t36N_inj k (u / 36) (v / 36) (by rw [Nat.div_lt_iff_lt_mul (by decide), ← Nat.pow_succ]; exact hu) (by rw [Nat.div_lt_iff_lt_mul (by decide), ← Nat.pow_succ]; exact hv) e1
    have p2 := dig_eq (Nat.mod_lt _ (by decide)) (Nat.mod_lt _ (by decide)) e2
    omega
theorem t36N_mem : ∀ (k u : Nat), u < 36 ^ (k + 1) → ∀ x ∈ t36N k u, 48 ≤ x ∧ x ≤ 122 ∧ x ≠ 58
 | 0, u, hu, x, hx => by
  simp only [t36N, List.mem_singleton] at hx; rw [hx]; exact dig_ok ⟨u, by simpa using hu⟩
 | k + 1, u, hu, x, hx => by
  unfold t36N at hx
  split at hx
  ·rename_i h
   rw [List.mem_singleton.1 hx]; exact dig_ok ⟨u, h⟩
  ·rcases List.mem_append.1 hx with hx | hx
   ·exact t36N_mem k (u / 36) (by rw [Nat.div_lt_iff_lt_mul (by decide), ← Nat.pow_succ]; exact hu) x hx
   ·rw [List.mem_singleton.1 hx]; exact dig_ok ⟨u % 36, Nat.mod_lt _ (by decide)⟩
theorem two64_36 : zbi ≤ 36 ^ 13 := by decide
theorem t36_inj {u v : Nat} (hu : u < zbi) (hv : v < zbi) (h : t36 u = t36 v) : u = v := t36N_inj 12 u v (Nat.lt_of_lt_of_le hu two64_36) (Nat.lt_of_lt_of_le hv two64_36) h
theorem t36_mem {u : Nat} (hu : u < zbi) : ∀ x ∈ t36 u, 48 ≤ x ∧ x ≤ 122 ∧ x ≠ 58 := t36N_mem 12 u (Nat.lt_of_lt_of_le hu two64_36)
theorem cut_at {s : Int} : ∀ {a a' b b' : List Int}, s ∉ a → s ∉ a' → a ++ s :: b = a' ++ s :: b' → a = a' ∧ b = b'
 | [], [], b, b', _, _, h => by simpa using h
 | [], y :: a', b, b', _, h2, h => by
  simp only [List.nil_append, List.cons_append] at h; injection h with h _; exact absurd (by rw [h]; simp) h2
 | x :: a, [], b, b', h1, _, h => by
  simp only [List.nil_append, List.cons_append] at h; injection h with h _; exact absurd (by rw [← h]; simp) h1
 | x :: a, y :: a', b, b', h1, h2, h => by
  simp only [List.cons_append] at h; injection h with h h3; obtain ⟨e1, e2⟩ := cut_at (fun hh => h1 (by simp [hh])) (fun hh => h2 (by simp [hh])) h3
  exact ⟨by rw [h, e1], e2⟩
structure MarkOk (m : S166) : Prop where
 p : 0 ≤ m.f0 ∧ m.f0.toNat < zbi
 l : 0 ≤ m.f1 ∧ m.f1.toNat < zbi
theorem keyS_cons (m : S166) (l : List S166) : keyS (m :: l) = t36 m.f0.toNat ++ 58 :: (t36 m.f1.toNat ++ 32 :: keyS l) := by
 have e : keyS (m :: l) = keyOne m ++ keyS l := by simp [keyS]
 rw [e]; simp [keyOne]
theorem keyS_inj : ∀ {l l' : List S166}, (∀ m ∈ l, MarkOk m) → (∀ m ∈ l', MarkOk m) → keyS l = keyS l' → l = l'
 | [], [], _, _, _ => rfl
 | [], m :: l, _, _, h => by
  rw [keyS_cons] at h; have := congrArg List.length h; simp [keyS] at this
 | m :: l, [], _, _, h => by
  rw [keyS_cons] at h; have := congrArg List.length h; simp [keyS] at this
 | m :: l, n :: l', h1, h2, h => by
  rw [keyS_cons, keyS_cons] at h; have am := h1 m (by simp)
  have an := h2 n (by simp)
  obtain ⟨e1, h⟩ := cut_at (fun hx => (t36_mem am.p.2 _ hx).2.2 rfl) (fun hx => (t36_mem an.p.2 _ hx).2.2 rfl) h
  obtain ⟨e2, h⟩ := cut_at (fun hx => absurd (t36_mem am.l.2 _ hx).1 (by decide)) (fun hx => absurd (t36_mem an.l.2 _ hx).1 (by decide)) h
  have i1 := t36_inj am.p.2 an.p.2 e1; have i2 := t36_inj am.l.2 an.l.2 e2; have := am.p; have := an.p; have := am.l; have := an.l; have e : m = n := by
   cases m; cases n; simp only at *
   congr 1 <;> omega
  rw [e, keyS_inj (fun x hx => h1 x (by simp [hx])) (fun x hx => h2 x (by simp [hx])) h]
theorem keyS_mem {l : List S166} (h : ∀ m ∈ l, MarkOk m) : ∀ x ∈ keyS l, 32 ≤ x ∧ x ≤ 122 := by
 intro x hx; unfold keyS at hx; rw [List.mem_flatMap] at hx; obtain ⟨m, hm, hx⟩ := hx; have hk := h m hm; unfold keyOne at hx; simp only [List.mem_append, List.mem_singleton] at hx; rcases hx with ((hx | hx) | hx) | hx
 ·have := t36_mem hk.p.2 x hx; omega
 ·omega
 ·have := t36_mem hk.l.2 x hx; omega
 ·omega
theorem strOfNums_inj {a b : List Int} (ha : ∀ x ∈ a, 32 ≤ x ∧ x ≤ 122) (hb : ∀ x ∈ b, 32 ≤ x ∧ x ≤ 122) (h : strOfNums a = strOfNums b) : a = b := by
 have h1 : (strOfNums a).data.toList = (strOfNums b).data.toList := by rw [h]
 rw [strOfNums_data, strOfNums_data] at h1; have hl : a.length = b.length := by have := congrArg List.length h1; simpa using this
 apply List.ext_getElem hl; intro i p q; have e := congrArg (fun l => l[i]?) h1
 simp only [List.getElem?_map, List.getElem?_eq_getElem p, List.getElem?_eq_getElem q, Option.map_some, Option.some.injEq] at e; have e2 := congrArg UInt8.toNat e; simp only [UInt8.toNat_ofNat'] at e2; have := ha _ (List.getElem_mem p); have := hb _ (List.getElem_mem q); rw [Nat.mod_eq_of_lt (by omega), Nat.mod_eq_of_lt (by omega)] at e2
 omega
theorem keyB_inj {l l' : List S166} (h : ∀ m ∈ l, MarkOk m) (h' : ∀ m ∈ l', MarkOk m) (e : keyB l = keyB l') : l = l' := keyS_inj h h' (strOfNums_inj (keyS_mem h) (keyS_mem h') e)
def behV (sp : List S230) (s : List Nat) (y : Nat) : List Nat := (List.range sp.length).map fun n => match n with
 | 0 => 0
 | i + 1 => if fst s i ≠ 0 ∧ (rdSp sp i).f2 = (y : Int) then fst s i else 0
theorem behV_len (sp : List S230) (s : List Nat) (y : Nat) : (behV sp s y).length = sp.length := by simp [behV]
theorem behV_zero (sp : List S230) (s : List Nat) (y : Nat) : fst (behV sp s y) 0 = 0 := by
 unfold fst behV; rw [List.getD_eq_getElem?_getD, List.getElem?_map]; cases h : (List.range sp.length)[0]? with
 | none => rfl
 | some x =>
  have := List.getElem?_eq_some_iff.1 h; obtain ⟨h1, h2⟩ := this; rw [List.getElem_range] at h2; subst h2; rfl
theorem behV_succ (sp : List S230) (s : List Nat) (y i : Nat) : fst (behV sp s y) (i + 1) = if i + 1 < sp.length ∧ fst s i ≠ 0 ∧ (rdSp sp i).f2 = (y : Int) then fst s i else 0 := by
 have e : fst (behV sp s y) (i + 1) = if i + 1 < sp.length then (if fst s i ≠ 0 ∧ (rdSp sp i).f2 = (y : Int) then fst s i else 0) else 0 := by
  unfold behV; show (List.map _ _).getD (i + 1) 0 = _; rw [List.getD_eq_getElem?_getD, List.getElem?_map]; by_cases h : i + 1 < sp.length
  ·rw [List.getElem?_range h, if_pos h]; rfl
  ·rw [List.getElem?_eq_none (by simp; omega), if_neg h]; rfl
 rw [e]; by_cases h : i + 1 < sp.length
 ·rw [if_pos h]; by_cases h2 : fst s i ≠ 0 ∧ (rdSp sp i).f2 = (y : Int)
  ·rw [if_pos h2, if_pos ⟨h, h2⟩]
  ·rw [if_neg h2, if_neg (fun c => h2 c.2)]
 ·rw [if_neg h, if_neg (fun c => h c.1)]
theorem ext_fst {a b : List Nat} (hl : a.length = b.length) (h : ∀ n, fst a n = fst b n) : a = b := by
 apply List.ext_getElem hl; intro n h1 h2; have := h n; unfold fst at this; rw [List.getD_eq_getElem?_getD, List.getD_eq_getElem?_getD, List.getElem?_eq_getElem h1, List.getElem?_eq_getElem h2] at this; exact this
theorem marksS_snoc (l : List S166) (m : S166) (st : List Nat × List Nat) : marksS (l ++ [m]) st = putS (marksS l st).1 (marksS l st).2 m.f0.toNat m.f1.toNat := by
 unfold marksS; rw [List.foldl_append]; rfl
theorem fst_zeros (N j : Nat) : fst (List.replicate N 0) j = 0 := by
 unfold fst; rw [List.getD_eq_getElem?_getD, List.getElem?_replicate]
 split <;> rfl
section
variable {T M N : Nat} {sp : List S230} {of_ : List (List Nat)}
structure MkSt (sp : List S230) (s : List Nat) (y n : Nat) (st : List Nat × List Nat) : Prop where
 len : st.1.length = sp.length
 zero : fst st.1 0 = 0
 at_ : ∀ i, fst st.1 (i + 1) = if i < n ∧ i + 1 < sp.length ∧ fst s i ≠ 0 ∧ (rdSp sp i).f2 = (y : Int) then fst s i else 0
 td : ∀ j, j ∈ st.2 ↔ fst st.1 j ≠ 0
theorem mkSt (hnx : ∀ i, i + 1 = sp.length → (rdSp sp i).f2 < 0) (s : List Nat) (y : Nat) : ∀ n, n ≤ sp.length → MkSt sp s y n (marksS (marksOf sp s y n) (List.replicate sp.length 0, []))
 | 0, _ => ⟨by simp [marksOf, marksS], fst_zeros _ _, fun i => by
   show fst (List.replicate sp.length 0) (i + 1) = _; rw [fst_zeros, if_neg (fun c => absurd c.1 (Nat.not_lt_zero _))], fun j => by
   show j ∈ [] ↔ fst (List.replicate sp.length 0) j ≠ 0; rw [fst_zeros]; simp⟩
 | n + 1, hn => by
  have ih := mkSt hnx s y n (by omega)
  rw [marksOf_succ]; by_cases h : fst s n ≠ 0 ∧ (rdSp sp n).f2 = (y : Int)
  ·rw [if_pos h, marksS_snoc]; generalize marksS (marksOf sp s y n) (List.replicate sp.length 0, []) = st at *; have hlt : n + 1 < sp.length := by
    rcases Nat.lt_or_ge (n + 1) sp.length with h2 | h2
    ·exact h2
    ·have := hnx n (by omega)
     have := h.2; omega
   have h0 : fst st.1 (n + 1) = 0 := by rw [ih.at_, if_neg (fun c => absurd c.1 (Nat.lt_irrefl _))]
   simp only [Int.toNat_natCast]; unfold putS; rw [h0, Nat.zero_or, if_neg h.1]; refine ⟨by rw [List.length_set]; exact ih.len, ?_, fun i => ?_, fun j => ?_⟩
   ·show fst (st.1.set (n + 1) (fst s n)) 0 = 0; rw [fst_set, if_neg (fun c => by omega)]; exact ih.zero
   ·show fst (st.1.set (n + 1) (fst s n)) (i + 1) = _; rw [fst_set]; by_cases e : i = n
    ·subst e; rw [if_pos ⟨rfl, by rw [ih.len]; exact hlt⟩, if_pos ⟨Nat.lt_succ_self _, hlt, h⟩]
    ·rw [if_neg (fun c => e (by omega)), ih.at_]
     by_cases hc : i < n ∧ i + 1 < sp.length ∧ fst s i ≠ 0 ∧ (rdSp sp i).f2 = (y : Int)
     ·rw [if_pos hc, if_pos ⟨by omega, hc.2⟩]
     ·rw [if_neg hc, if_neg (fun c => hc ⟨by omega, c.2⟩)]
   ·show j ∈ st.2 ++ [n + 1] ↔ fst (st.1.set (n + 1) (fst s n)) j ≠ 0; rw [fst_set, List.mem_append, List.mem_singleton, ih.td]; by_cases e : n + 1 = j
    ·subst e; rw [if_pos ⟨rfl, by rw [ih.len]; exact hlt⟩]
     exact ⟨fun _ => h.1, fun _ => .inr rfl⟩
    ·rw [if_neg (fun c => e c.1)]
     exact ⟨fun c => by rcases c with c | c; exact c; exact absurd c.symm e, .inl⟩
  ·rw [if_neg h, List.append_nil]; refine ⟨ih.len, ih.zero, fun i => ?_, ih.td⟩
   rw [ih.at_]; by_cases hc : i < n ∧ i + 1 < sp.length ∧ fst s i ≠ 0 ∧ (rdSp sp i).f2 = (y : Int)
   ·rw [if_pos hc, if_pos ⟨by omega, hc.2⟩]
   ·rw [if_neg hc, if_neg (fun c => hc ⟨by
     rcases Nat.lt_or_ge i n with h2 | h2
     ·exact h2
     ·exfalso; have e : i = n := by omega
      subst e; exact h c.2.2, c.2⟩)]
theorem marks_beh (hnx : ∀ i, i + 1 = sp.length → (rdSp sp i).f2 < 0) {s : List Nat} (hs : s.length = sp.length) (y : Nat) : (marksS (marksOf sp s y s.length) (List.replicate sp.length 0, [])).1 = behV sp s y := by
 have h := mkSt hnx s y s.length (by omega)
 refine ext_fst (by rw [h.len, behV_len]) (fun n => ?_)
 cases n with
 | zero => rw [h.zero, behV_zero]
 | succ i =>
  rw [h.at_, behV_succ]; by_cases hc : i + 1 < sp.length ∧ fst s i ≠ 0 ∧ (rdSp sp i).f2 = (y : Int)
  ·rw [if_pos hc, if_pos ⟨by omega, hc⟩]
  ·rw [if_neg hc, if_neg (fun c => hc c.2)]
theorem work_beh (hnx : ∀ i, i + 1 = sp.length → (rdSp sp i).f2 < 0) {s : List Nat} (hs : s.length = sp.length) (y : Nat) : Work T sp of_ (behV sp s y) (marksS (marksOf sp s y s.length) (List.replicate sp.length 0, [])) := by
 have h := mkSt hnx s y s.length (by omega)
 have e := marks_beh hnx hs y; exact ⟨by rw [e], fun n hn => (h.td n).1 hn, by rw [e]; exact Sub.refl _, fun n h1 h2 => absurd ((h.td n).2 h1) h2, fun Y hY _ => by rw [e]; exact hY⟩
def startV (N : Nat) : List Nat := (List.replicate N 0).set 0 1
theorem startV_len (N : Nat) : (startV N).length = N := by simp [startV]
theorem marks_start : marksS startL (List.replicate N 0, []) = (startV N, [0]) := by
 unfold marksS startL startV; simp only [List.foldl_cons, List.foldl_nil]; unfold putS; show (if fst (List.replicate N 0) 0 ||| 1 = fst (List.replicate N 0) 0 then _ else _) = _
 rw [fst_zeros, if_neg (by decide)]
 show ((List.replicate N 0).set 0 (fst (List.replicate N 0) 0 ||| 1), [0]) = _; rw [fst_zeros, Nat.zero_or]
theorem work_start (hN : 0 < N) : Work T sp of_ (startV N) (marksS startL (List.replicate N 0, [])) := by
 rw [marks_start]; have h0 : ∀ n, fst (startV N) n ≠ 0 ↔ n = 0 := fun n => by
  unfold startV; rw [fst_set, fst_zeros, List.length_replicate]; by_cases h : n = 0
  ·subst h; rw [if_pos ⟨rfl, hN⟩]; simp
  ·rw [if_neg (fun c => h c.1.symm)]; simp [h]
 exact ⟨rfl, fun n hn => (h0 n).2 (List.mem_singleton.1 hn), Sub.refl _, fun n h1 h2 => absurd (by rw [(h0 n).1 h1]; exact List.mem_singleton.2 rfl) h2, fun Y hY _ => hY⟩
theorem least_kept {S X : List Nat} (h : Least T sp of_ S X) {n : Nat} (hn : ∀ y, n ∉ rdOfs of_ y) : fst X n = fst S n := by
 classical
 let Y : List Nat := (List.range X.length).map fun j => if ∃ y, j ∈ rdOfs of_ y then fst X j else fst S j
 have hY : ∀ j, fst Y j = if (∃ y, j ∈ rdOfs of_ y) ∧ j < X.length then fst X j else fst S j := fun j => by
  show (List.map _ _).getD j 0 = _; rw [List.getD_eq_getElem?_getD, List.getElem?_map]; by_cases hj : j < X.length
  ·rw [List.getElem?_range hj]; by_cases hc : ∃ y, j ∈ rdOfs of_ y
   ·rw [if_pos ⟨hc, hj⟩]; simp [hc]
   ·rw [if_neg (fun c => hc c.1)]; simp [hc]
  ·rw [List.getElem?_eq_none (by simp; omega), if_neg (fun c => hj c.2)]
   have := h.len; unfold fst; rw [List.getD_eq_getElem?_getD, List.getElem?_eq_none (by omega)]; rfl
 have hSY : Sub S Y := fun j t hb => by
  rw [hY]
  split
  ·exact h.above j t hb
  ·exact hb
 have hYX : Sub Y X := fun j t hb => by
  rw [hY] at hb
  split at hb
  ·exact hb
  ·exact h.above j t hb
 have hC : ClosedS T sp of_ Y := fun j hj hT q hq t ht => by
  have h1 := h.closed j (hYX.nz hj) hT q hq t (looks_mono hYX j t ht); rw [hY]; by_cases hlt : q < X.length
  ·rw [if_pos ⟨⟨_, hq⟩, hlt⟩]; exact h1
  ·unfold fst at h1; rw [List.getD_eq_getElem?_getD, List.getElem?_eq_none (by omega)] at h1
   simp at h1
 have hXY := h.least Y hSY hC; have e : fst Y n = fst S n := by rw [hY, if_neg (fun c => by obtain ⟨⟨y, hy⟩, _⟩ := c; exact hn y hy)]
 apply Nat.eq_of_testBit_eq; intro t; have a1 := hXY n t; rw [e] at a1; have a2 := h.above n t; cases c1 : (fst X n).testBit t <;> cases c2 : (fst S n).testBit t <;> simp_all
theorem filterMap_same {α β : Type} {f g : α → Option β} : ∀ {l : List α}, (∀ x ∈ l, f x = g x) → l.filterMap f = l.filterMap g
 | [], _ => rfl
 | x :: l, h => by rw [List.filterMap_cons, List.filterMap_cons, h x (by simp), filterMap_same (fun y hy => h y (by simp [hy]))]
theorem marks_of (hnx : ∀ i, i + 1 = sp.length → (rdSp sp i).f2 < 0) {s : List Nat} (hs : s.length = sp.length) (y : Nat) : marksOf sp s y s.length = (List.range sp.length).filterMap fun i => if fst (behV sp s y) (i + 1) ≠ 0 then some (⟨((i + 1 : Nat) : Int), ((fst (behV sp s y) (i + 1) : Nat) : Int)⟩ : S166) else none := by
 unfold marksOf; rw [hs]; apply filterMap_same; intro i hi; rw [List.mem_range] at hi; rw [behV_succ]; by_cases hc : fst s i ≠ 0 ∧ (rdSp sp i).f2 = (y : Int)
 ·have h1 : i + 1 < sp.length := by
   rcases Nat.lt_or_ge (i + 1) sp.length with h2 | h2
   ·exact h2
   ·have := hnx i (by omega); have := hc.2; omega
  have e : (if i + 1 < sp.length ∧ fst s i ≠ 0 ∧ (rdSp sp i).f2 = (y : Int) then fst s i else 0) = fst s i := if_pos ⟨h1, hc⟩
  rw [e, if_pos hc, if_pos hc.1]
 ·have e : (if i + 1 < sp.length ∧ fst s i ≠ 0 ∧ (rdSp sp i).f2 = (y : Int) then fst s i else 0) = 0 := if_neg (fun c => hc c.2)
  rw [e, if_neg hc, if_neg (fun c => c rfl)]
structure Sp (T M N : Nat) (sp : List S230) (of_ : List (List Nat)) : Prop where
 len : sp.length = N
 pos : 0 < N
 last : ∀ i, i + 1 = sp.length → (rdSp sp i).f2 < 0
 start : ∀ i, 0 ≤ (rdSp sp i).f2 → i < N → ∀ y, i + 1 ∉ rdOfs of_ y
 zero : ∀ y, 0 ∉ rdOfs of_ y
 of_lt : ∀ l ∈ of_, ∀ n ∈ l, n < N
 rest : ∀ x ∈ sp, x.f3.toNat < 2 ^ T
 t64 : T ≤ 64
 n20 : N ≤ 1048576
open Classical in
theorem same_beh (H : Sp T M N sp of_) {s s' X : List Nat} {y y' : Nat} (h : Least T sp of_ (behV sp s y) X) (h' : Least T sp of_ (behV sp s' y') X) : behV sp s y = behV sp s' y' := by
 have key : ∀ (s : List Nat) (y : Nat), Least T sp of_ (behV sp s y) X → ∀ n, fst (behV sp s y) n = (if n = 0 ∨ ∃ y, n ∈ rdOfs of_ y then 0 else fst X n) := by
  intro s y h n; cases n with
  | zero => rw [behV_zero, if_pos (.inl rfl)]
  | succ i =>
   by_cases hc : ∃ y, i + 1 ∈ rdOfs of_ y
   ·rw [if_pos (.inr hc), behV_succ, if_neg]; rintro ⟨h1, h2, h3⟩; obtain ⟨z, hz⟩ := hc; exact H.start i (by omega) (by have := H.len; omega) z hz
   ·rw [if_neg (fun c => by rcases c with c | c; omega; exact hc c), least_kept h (fun y hy => hc ⟨y, hy⟩)]
 refine ext_fst (by rw [behV_len, behV_len]) (fun n => ?_)
 have a := key s y h n; have b := key s' y' h' n; rw [a, b]
inductive Kern (T M N : Nat) (sp : List S230) (of_ : List (List Nat)) : List S166 → List Nat → Prop
 | start (X : List Nat) (h : Least T sp of_ (startV N) X) : Kern T M N sp of_ startL X
 | mv (s : List Nat) (y : Nat) (X : List Nat) (hs : SetOk T N s) (h : Least T sp of_ (behV sp s y) X) : Kern T M N sp of_ (marksOf sp s y s.length) X
theorem marks_fit (H : Sp T M N sp of_) {s : List Nat} (hs : SetOk T N s) (y : Nat) : (∀ m ∈ marksOf sp s y s.length, MarkOk m) ∧ ∀ m ∈ marksOf sp s y s.length, 1 ≤ m.f0 := by
 have h := marks_ok (T := T) H.len hs.len hs.lt H.last y; have h64 := pow64 H.t64; have hn := H.n20; refine ⟨fun m hm => ?_, fun m hm => ?_⟩
 ·obtain ⟨a, b, c, d⟩ := h m hm; refine ⟨⟨a, ?_⟩, ⟨c, Nat.lt_of_lt_of_le d h64⟩⟩; unfold zbi; omega
 ·unfold marksOf at hm; rw [List.mem_filterMap] at hm; obtain ⟨i, _, hm⟩ := hm
  split at hm
  ·cases hm; show (1 : Int) ≤ ((i + 1 : Nat) : Int); omega
  ·cases hm
theorem startL_fit : ∀ m ∈ startL, MarkOk m := fun m hm => by
 rw [List.mem_singleton.1 hm]; exact ⟨⟨by decide, by decide⟩, ⟨by decide, by decide⟩⟩
theorem startV_bit (hN : 0 < N) : (fst (startV N) 0).testBit 0 = true := by
 unfold startV; rw [fst_set, if_pos ⟨rfl, by rw [List.length_replicate]; exact hN⟩]
 rfl
theorem kern_off (H : Sp T M N sp of_) {s X X' : List Nat} {y : Nat} (hs : SetOk T N s) (h : Least T sp of_ (startV N) X) (h' : Least T sp of_ (behV sp s y) X') : keyB startL ≠ keyB (marksOf sp s y s.length) ∧ X ≠ X' := by
 obtain ⟨m1, m2⟩ := marks_fit H hs y; refine ⟨fun e => ?_, fun e => ?_⟩
 ·have := keyB_inj startL_fit m1 e; have h2 := m2 ⟨0, 1⟩ (by rw [← this]; exact List.mem_singleton.2 rfl)
  exact absurd h2 (by decide)
 ·have a := h.above 0 0 (startV_bit H.pos); rw [e, least_kept h' H.zero, behV_zero, Nat.zero_testBit] at a; cases a
theorem kern_match (H : Sp T M N sp of_) {k k' : List S166} {X X' : List Nat} (h : Kern T M N sp of_ k X) (h' : Kern T M N sp of_ k' X') : keyB k = keyB k' ↔ X = X' := by
 cases h with
 | start _ h =>
  cases h' with
  | start _ h' => exact ⟨fun _ => h.uniq h', fun _ => rfl⟩
  | mv s y _ hs h' => exact ⟨fun e => absurd e (kern_off H hs h h').1, fun e => absurd e (kern_off H hs h h').2⟩
 | mv s y _ hs h =>
  cases h' with
  | start _ h' => exact ⟨fun e => absurd e.symm (kern_off H hs h' h).1, fun e => absurd e.symm (kern_off H hs h' h).2⟩
  | mv s' y' _ hs' h' =>
   have l1 : s.length = sp.length := hs.len.trans H.len.symm; have l2 : s'.length = sp.length := hs'.len.trans H.len.symm; constructor
   ·intro e; have em := keyB_inj (marks_fit H hs y).1 (marks_fit H hs' y').1 e; have eb : behV sp s y = behV sp s' y' := by rw [← marks_beh H.last l1, ← marks_beh H.last l2, em]
    rw [eb] at h; exact h.uniq h'
   ·intro e; subst e; have eb := same_beh H h h'; rw [marks_of H.last l1, marks_of H.last l2, eb]
def ixS (r : List Nat) : List (List Nat) → Option Nat
 | [] => none
 | x :: l => if x = r then some 0 else (ixS r l).map (· + 1)
inductive KOk (T M N : Nat) (sp : List S230) (of_ : List (List Nat)) : List (List Nat) → List ByteArray → Prop
 | nil : KOk T M N sp of_ [] []
 | cons {X : List Nat} {b : ByteArray} {sets : List (List Nat)} {keys : List ByteArray} (h : ∃ k, b = keyB k ∧ Kern T M N sp of_ k X) (r : KOk T M N sp of_ sets keys) : KOk T M N sp of_ (X :: sets) (b :: keys)
theorem ix_match (H : Sp T M N sp of_) {k : List S166} {X : List Nat} (hk : Kern T M N sp of_ k X) : ∀ {sets : List (List Nat)} {keys : List ByteArray}, KOk T M N sp of_ sets keys → ixB (keyB k) keys = ixS X sets
 | _, _, .nil => rfl
 | _, _, .cons (X := Y) (b := b) (sets := sets) (keys := keys) ⟨k', hb, hk'⟩ hr => by
  unfold ixB ixS; subst hb; have hm := kern_match H hk' hk; rw [ix_match H hk hr]; by_cases e : keyB k' = keyB k
  ·rw [if_pos e, if_pos (hm.1 e)]
  ·rw [if_neg e, if_neg (fun c => e (hm.2 c))]
theorem stepC_room (H : Sp T M N sp of_) {s : List Nat} (hs : SetOk T N s) {n : Nat} (hn : n < N) : SetOk T N (stepC T sp of_ s n) ∧ room (stepC T sp of_ s n) ≤ room s ∧ (stepC T sp of_ s n ≠ s → room (stepC T sp of_ s n) < room s) := by
 unfold stepC; by_cases h : fst s n = 0 ∨ (rdSp sp n).f2 < (T : Int)
 ·rw [if_pos h]; exact ⟨hs, Nat.le_refl _, fun e => absurd rfl e⟩
 ·rw [if_neg h]; have hlq := rdOfs_lt H.of_lt ((rdSp sp n).f2 - T).toNat; have hrest : (rdSp sp n).f3.toNat < 2 ^ T := H.rest _ (rdSp_mem (by have := H.len; omega))
  have hx : looksS sp s n < 2 ^ T := by
   unfold looksS
   split
   ·exact Nat.or_lt_two_pow hrest (hs.lt.fst n)
   ·exact hrest
  have hpot : Pot N (s, []) := ⟨hs.len, fun y hy => Nat.lt_of_lt_of_le (hs.lt y hy) (pow64 H.t64), fun y hy => (by cases hy), (by
   have := room_le s; rw [hs.len] at this
   simpa using this)⟩
  have hp := puts_pot (rdOfs of_ ((rdSp sp n).f2 - T).toNat) (looksS sp s n) (s, []) hpot (Nat.lt_of_lt_of_le hx (pow64 H.t64)) hlq; obtain ⟨hq, -⟩ := puts_all (x := looksS sp s n) (N := N) (rdOfs of_ ((rdSp sp n).f2 - T).toNat) (s, []) hs.len hlq (fun m hm => by cases hm)
  simp only [List.length_nil, Nat.zero_add] at hp; refine ⟨⟨hq.len.trans hs.len, Lt.puts hx _ _ hs.lt⟩, by omega, fun hne => ?_⟩
  obtain ⟨m, hm⟩ : ∃ m, fst (putsS (rdOfs of_ ((rdSp sp n).f2 - T).toNat) (looksS sp s n) (s, [])).1 m ≠ fst s m := by
   apply Classical.byContradiction; intro hno; exact hne (ext_fst hq.len (fun m => Classical.byContradiction fun c => hno ⟨m, c⟩))
  have := hq.new m hm; have hpos := List.length_pos_of_mem this; omega
theorem passC_room (H : Sp T M N sp of_) : ∀ (l : List Nat) {s : List Nat}, SetOk T N s → (∀ n ∈ l, n < N) → SetOk T N (passC T sp of_ l s) ∧ room (passC T sp of_ l s) ≤ room s ∧ (passC T sp of_ l s ≠ s → room (passC T sp of_ l s) < room s)
 | [], s, hs, _ => ⟨hs, Nat.le_refl _, fun e => absurd rfl e⟩
 | n :: l, s, hs, hl => by
  obtain ⟨a1, a2, a3⟩ := stepC_room H hs (hl n (by simp))
  obtain ⟨b1, b2, b3⟩ := passC_room H l a1 (fun m hm => hl m (by simp [hm]))
  have e : passC T sp of_ (n :: l) s = passC T sp of_ l (stepC T sp of_ s n) := rfl; rw [e]; refine ⟨b1, Nat.le_trans b2 a2, fun hne => ?_⟩
  by_cases h : stepC T sp of_ s n = s
  ·rw [h] at b3 hne ⊢; exact b3 hne
  ·exact Nat.lt_of_le_of_lt b2 (a3 h)
theorem closeD_some (H : Sp T M N sp of_) : ∀ (k : Nat) (s : List Nat), SetOk T N s → room s < k → ∃ r, closeD T sp of_ k s = some r ∧ SetOk T N r
 | 0, s, _, h => absurd h (Nat.not_lt_zero _)
 | k + 1, s, hs, h => by
  obtain ⟨a1, a2, a3⟩ := passC_room H (List.range sp.length) hs (fun n hn => by rw [List.mem_range, H.len] at hn; exact hn)
  unfold closeD; by_cases e : passC T sp of_ (List.range sp.length) s = s
  ·rw [if_pos e]; exact ⟨s, rfl, hs⟩
  ·rw [if_neg e]; exact closeD_some H k _ a1 (by have := a3 e; omega)
theorem closeD_of (H : Sp T M N sp of_) {S : List Nat} (hS : SetOk T N S) : ∃ r, closeD T sp of_ (64 * N + 1) S = some r ∧ SetOk T N r ∧ Least T sp of_ S r := by
 obtain ⟨r, h1, h2⟩ := closeD_some H (64 * N + 1) S hS (by have := room_le S; rw [hS.len] at this; omega)
 exact ⟨r, h1, h2, closeD_least H.of_lt H.len hS.len _ S r hS.len (Sub.refl _) (fun Y hY _ => hY) h1⟩
theorem behV_ok (H : Sp T M N sp of_) {s : List Nat} (hs : SetOk T N s) (y : Nat) : SetOk T N (behV sp s y) := by
 refine ⟨by rw [behV_len, H.len], fun x hx => ?_⟩
 obtain ⟨n, hn, rfl⟩ := List.getElem_of_mem hx; have e : (behV sp s y)[n] = fst (behV sp s y) n := by unfold fst; rw [List.getD_eq_getElem?_getD, List.getElem?_eq_getElem hn]; rfl
 rw [e]; cases n with
 | zero => rw [behV_zero]; exact Nat.two_pow_pos T
 | succ i =>
  rw [behV_succ]
  split
  ·exact hs.lt.fst i
  ·exact Nat.two_pow_pos T
def dY (T : Nat) (sp : List S230) (of_ : List (List Nat)) (kd : Nat) (s : List Nat) : List Nat → List Int → List (List Nat) → Option (Option (List Int × List (List Nat)))
 | [], row, sets => some (some (row, sets))
 | y :: ys, row, sets => if marksOf sp s y s.length = [] then dY T sp of_ kd s ys (row ++ [-1]) sets else match closeD T sp of_ kd (behV sp s y) with
  | none => none
  | some r => match ixS r sets with
   | some n => dY T sp of_ kd s ys (row ++ [(n : Int)]) sets
   | none => if sets.length = 2048 then some none else dY T sp of_ kd s ys (row ++ [(sets.length : Int)]) (sets ++ [r])
def dI (T M : Nat) (sp : List S230) (of_ : List (List Nat)) (kd : Nat) : Nat → Nat → List (List Nat) → List (List Int) → Option (Option (List (List Nat) × List (List Int)))
 | 0, _, _, _ => none
 | k + 1, i, sets, gs => match sets[i]? with
  | none => some (some (sets, gs))
  | some s => match dY T sp of_ kd s (List.range (T + M)).tail [-1] sets with
   | none => none
   | some none => some none
   | some (some (row, sets')) => dI T M sp of_ kd k (i + 1) sets' (gs ++ [row])
def setsD (T M : Nat) (sp : List S230) (of_ : List (List Nat)) (kd kl : Nat) : Option (Option (List (List Nat) × List (List Int))) :=
 match closeD T sp of_ kd (startV sp.length) with
 | none => none
 | some r => dI T M sp of_ kd kl 0 [r] []
theorem KOk.len {sets : List (List Nat)} {keys : List ByteArray} (h : KOk T M N sp of_ sets keys) : sets.length = keys.length := by
 induction h with
 | nil => rfl
 | cons _ _ ih => simp [ih]
theorem KOk.snoc {sets : List (List Nat)} {keys : List ByteArray} (h : KOk T M N sp of_ sets keys) {k : List S166} {X : List Nat} (hk : Kern T M N sp of_ k X) : KOk T M N sp of_ (sets ++ [X]) (keys ++ [keyB k]) := by
 induction h with
 | nil => exact .cons ⟨k, rfl, hk⟩ .nil
 | cons a _ ih => exact .cons a ih
theorem goY_dY (H : Sp T M N sp of_) {s : List Nat} (hs : SetOk T N s) (kf : Nat) : ∀ (ys : List Nat) (row : List Int) (sets : List (List Nat)) (keys : List ByteArray) (res : Option (List Int × SK)), KOk T M N sp of_ sets keys → (∀ X ∈ sets, SetOk T N X) →
  goY T sp of_ kf (ys.map fun y => marksOf sp s y s.length) row (sets, keys) = some res → dY T sp of_ (64 * N + 1) s ys row sets = some (res.map fun p => (p.1, p.2.1)) ∧ ∀ row' st', res = some (row', st') → KOk T M N sp of_ st'.1 st'.2 ∧ ∀ X ∈ st'.1, SetOk T N X
 | [], row, sets, keys, res, hk, hall, h => by
  simp only [List.map_nil, goY, Option.some.injEq] at h; subst h; exact ⟨rfl, fun row' st' e => by cases e; exact ⟨hk, hall⟩⟩
 | y :: ys, row, sets, keys, res, hk, hall, h => by
  rw [List.map_cons] at h; unfold dY; cases hm : marksOf sp s y s.length with
  | nil =>
   rw [hm] at h; simp only [goY] at h; rw [if_pos rfl]; exact goY_dY H hs kf ys _ sets keys res hk hall h
  | cons m ms =>
   rw [hm] at h; rw [if_neg (by simp)]
   obtain ⟨r, h1, h2, h3⟩ := closeD_of H (behV_ok H hs y); rw [h1]; have hK : Kern T M N sp of_ (marksOf sp s y s.length) r := .mv s y r hs h3; rw [hm] at hK; have hix := ix_match H hK hk; simp only [goY] at h; simp only; cases hx : ixB (keyB (m :: ms)) keys with
   | some n =>
    rw [hx] at hix h; rw [← hix]; simp only at h ⊢; exact goY_dY H hs kf ys _ sets keys res hk hall h
   | none =>
    rw [hx] at hix h; rw [← hix]; simp only at h ⊢; by_cases hfull : sets.length = 2048
    ·rw [if_pos hfull] at h ⊢; simp only [Option.some.injEq] at h; subst h; exact ⟨rfl, fun _ _ e => by cases e⟩
    ·rw [if_neg hfull] at h ⊢; cases hc : closeN T sp of_ kf (marksS (m :: ms) (List.replicate sp.length 0, [])) with
     | none => rw [hc] at h; simp at h
     | some r' =>
      rw [hc] at h; simp only at h; have l1 : s.length = sp.length := hs.len.trans H.len.symm; have hw := work_beh (T := T) (of_ := of_) H.last l1 y; rw [hm] at hw; have hL := closeN_least (S := behV sp s y) (by rw [behV_len, H.len]; exact H.of_lt) kf _ r' hw hc
      have e : r' = r := hL.uniq h3; subst e; exact goY_dY H hs kf ys _ (sets ++ [r']) (keys ++ [keyB (m :: ms)]) res (hk.snoc hK) (fun X hX => by
       rcases List.mem_append.1 hX with hX | hX
       ·exact hall X hX
       ·rw [List.mem_singleton.1 hX]; exact h2) h
theorem goI_dI (H : Sp T M N sp of_) (hsy : ∀ i, i < N → (rdSp sp i).f2 ≠ 0) (hK : 0 < T + M) (kf : Nat) : ∀ (k i : Nat) (sets : List (List Nat)) (keys : List ByteArray) (gs : List (List Int)) (res : Option (List (List Nat) × List (List Int))), KOk T M N sp of_ sets keys → (∀ X ∈ sets, SetOk T N X) →
  goI T M sp of_ kf k i (sets, keys) gs = some res → dI T M sp of_ (64 * N + 1) k i sets gs = some res
 | 0, i, sets, keys, gs, res, _, _, h => by simp [goI] at h
 | k + 1, i, sets, keys, gs, res, hk, hall, h => by
  unfold goI at h; unfold dI; simp only at h; cases hsi : sets[i]? with
  | none => rw [hsi] at h; exact h
  | some s =>
   rw [hsi] at h; simp only at h ⊢; have hs := hall s (List.mem_of_getElem? hsi); have hz : marksOf sp s 0 s.length = [] := by
    unfold marksOf; rw [List.filterMap_eq_nil_iff]; intro a ha; rw [List.mem_range, hs.len] at ha; rw [if_neg (fun c => hsy a ha c.2)]
   have hr : List.range (T + M) = 0 :: (List.range (T + M)).tail := by
    cases e : T + M with
    | zero => omega
    | succ n => rw [List.range_succ_eq_map]; rfl
   have hg : goY T sp of_ kf (movedN (T + M) sp s s.length) [] (sets, keys) = goY T sp of_ kf ((List.range (T + M)).tail.map fun y => marksOf sp s y s.length) [-1] (sets, keys) := by
    unfold movedN
    conv => lhs; rw [hr, List.map_cons, hz]
    rfl
   rw [hg] at h; cases hy : goY T sp of_ kf ((List.range (T + M)).tail.map fun y => marksOf sp s y s.length) [-1] (sets, keys) with
   | none => rw [hy] at h; simp at h
   | some ry =>
    rw [hy] at h; obtain ⟨h1, h2⟩ := goY_dY H hs kf _ [-1] sets keys ry hk hall hy; rw [h1]; cases ry with
    | none => exact h
    | some p =>
     obtain ⟨row, sets', keys'⟩ := p; obtain ⟨h3, h4⟩ := h2 row (sets', keys') rfl; exact goI_dI H hsy hK kf k (i + 1) sets' keys' _ res h3 h4 h
theorem sets_same (H : Sp T M N sp of_) (hsy : ∀ i, i < N → (rdSp sp i).f2 ≠ 0) (hT : 1 ≤ T) {kf kl : Nat} {res : Option (List (List Nat) × List (List Int))} (h : setsN T M sp of_ kf kl = some res) : setsD T M sp of_ (64 * N + 1) kl = some res := by
 unfold setsN at h; unfold setsD; rw [H.len] at *; have hS : SetOk T N (startV N) := ⟨startV_len N, fun x hx => by
  unfold startV at hx; rcases List.mem_or_eq_of_mem_set hx with hx | hx
  ·rw [(List.mem_replicate.1 hx).2]; exact Nat.two_pow_pos T
  ·rw [hx]; exact Nat.one_lt_two_pow (by omega)⟩
 obtain ⟨r, h1, h2, h3⟩ := closeD_of H hS; rw [h1]; cases hc : closeN T sp of_ kf (marksS startL (List.replicate N 0, [])) with
 | none => rw [hc] at h; simp at h
 | some r' =>
  rw [hc] at h; have hL := closeN_least (S := startV N) (by rw [startV_len]; exact H.of_lt) kf _ r' (work_start H.pos) hc
  have e : r' = r := hL.uniq h3; subst e; exact goI_dI H hsy (by omega) kf kl 0 [r'] [keyB startL] [] res (.cons ⟨_, rfl, .start r' hL⟩ .nil) (fun X hX => by rw [List.mem_singleton.1 hX]; exact h2) h
end
def orAt (s : List Nat) (n x : Nat) : List Nat := s.set n (fst s n ||| x)
theorem set_same {s : List Nat} {n : Nat} : s.set n (fst s n) = s := by
 apply List.ext_getElem?; intro j; rw [List.getElem?_set]; by_cases h : n = j
 ·subst h; rw [if_pos rfl]; by_cases hl : n < s.length
  ·rw [if_pos hl]; unfold fst; rw [List.getD_eq_getElem?_getD, List.getElem?_eq_getElem hl]; rfl
  ·rw [if_neg hl, List.getElem?_eq_none (by omega)]
 ·rw [if_neg h]
theorem putS_fst (s td : List Nat) (n x : Nat) : (putS s td n x).1 = orAt s n x := by
 unfold putS orAt; by_cases h : fst s n ||| x = fst s n
 ·rw [if_pos h, h, set_same]
 ·rw [if_neg h]
theorem putsS_fst (x : Nat) : ∀ (l : List Nat) (st : List Nat × List Nat), (putsS l x st).1 = l.foldl (fun s n => orAt s n x) st.1
 | [], st => rfl
 | n :: l, st => by
  have e : putsS (n :: l) x st = putsS l x (putS st.1 st.2 n x) := rfl; rw [e, putsS_fst x l, putS_fst]; rfl
def orAll (l : List Nat) (x : Nat) (s : List Nat) : List Nat := l.foldl (fun s n => orAt s n x) s
theorem orAll_snoc (l : List Nat) (n x : Nat) (s : List Nat) : orAll (l ++ [n]) x s = orAt (orAll l x s) n x := by
 unfold orAll; rw [List.foldl_append]; rfl
theorem orAt_len (s : List Nat) (n x : Nat) : (orAt s n x).length = s.length := List.length_set
theorem orAt_sub (s : List Nat) (n x : Nat) : Sub s (orAt s n x) := sub_set
theorem orAt_ne {s : List Nat} {n x : Nat} (hn : n < s.length) : orAt s n x ≠ s ↔ fst s n ||| x ≠ fst s n := by
 constructor
 ·intro h e; apply h; unfold orAt; rw [e, set_same]
 ·intro h e; apply h; have := congrArg (fun l => fst l n) e
  simp only [orAt] at this; rw [fst_set, if_pos ⟨rfl, hn⟩] at this; exact this
theorem stepC_or (T : Nat) (sp : List S230) (of_ : List (List Nat)) (s : List Nat) (n : Nat) : stepC T sp of_ s n = if fst s n = 0 ∨ (rdSp sp n).f2 < (T : Int) then s else orAll (rdOfs of_ ((rdSp sp n).f2 - T).toNat) (looksS sp s n) s := by
 unfold stepC
 split
 ·rfl
 ·rw [putsS_fst]; rfl
theorem passC_snoc (T : Nat) (sp : List S230) (of_ : List (List Nat)) (n : Nat) (s : List Nat) : passC T sp of_ (List.range (n + 1)) s = stepC T sp of_ (passC T sp of_ (List.range n) s) n := by
 unfold passC; rw [List.range_succ, List.foldl_append]; rfl
theorem spotsS_get (F : List Nat) (V : List Bool) : ∀ (ps : List S77) (k i j : Nat) (hi : i < ps.length), j ≤ (ps[i]).f1.length → (zbc F V k ps)[dots (ps.take i) + j]? = some (spotF F V (k + i) (ps[i]).f1 j)
 | p :: ps, k, 0, j, hi, hj => by
  simp only [List.take_zero, List.getElem_cons_zero, Nat.add_zero] at hj ⊢; rw [show dots ([] : List S77) = 0 from rfl, Nat.zero_add]; unfold zbc; rw [List.getElem?_append_left (by rw [rowAt_len]; omega), rowAt_get hj, if_pos (Nat.zero_le _)]
 | p :: ps, k, i + 1, j, hi, hj => by
  simp only [List.getElem_cons_succ] at hj ⊢; have ih := spotsS_get F V ps (k + 1) i j (by simpa using hi) hj
  rw [List.take_succ_cons, dots_cons]; unfold zbc; rw [List.getElem?_append_right (by rw [rowAt_len]; omega), rowAt_len, show p.f1.length + 1 + dots (ps.take i) + j - (p.f1.length + 1) = dots (ps.take i) + j by omega, ih, show k + 1 + i = k + (i + 1) by omega]
theorem rdSp_get {F : List Nat} {V : List Bool} {ps : List S77} {i j : Nat} (hi : i < ps.length) (hj : j ≤ (ps[i]).f1.length) : rdSp (zbc F V 0 ps) (dots (ps.take i) + j) = spotF F V i (ps[i]).f1 j := by
 unfold rdSp; rw [List.getD_eq_getElem?_getD, spotsS_get F V ps 0 i j hi hj, Nat.zero_add]; rfl
theorem dots_le {ps : List S77} {i : Nat} (hi : i < ps.length) : dots (ps.take i) + ((ps[i]).f1.length + 1) ≤ dots ps := by
 have h := dots_take ps (i + 1); rw [List.take_succ_eq_append_getElem hi, dots_snoc] at h; exact h
end Doc
end Go.Proofs.YtcijanmckhlpiaaDoor
