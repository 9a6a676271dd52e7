-- Texts of this seat, cut to what is used and merged (by shake.py).
import Derived.Test.YtcijanmckhlpiaaDoorSq6
import Derived.Test.YtcijanmckhlpiaaDoorSq9
import Derived.Maps.OwnIn
import Derived.Maps.OwnOps
import Derived.Maps.OwnSet
set_option linter.unusedVariables false
set_option linter.unusedSimpArgs false
namespace Go.Proofs.YtcijanmckhlpiaaDoor
open Go.RowKit Go.Proofs.YtcijanmckhlpiaaDoorW.PrintWords Go.Proofs.YtcijanmckhlpiaaDoorW.PrintLast Go.Proofs.YtcijanmckhlpiaaDoorW.PrintMore Go.Proofs.YtcijanmckhlpiaaDoor.PTableBuilds
namespace Bld
theorem info95 : (Tryd.prog.info? 95).map (fun i => (i.zero, i.size, i.bytes)) = some (some (.slice none 0 0), 1, 24) := by kernel_rfl
structure IsBook (w0 W : World) (gb : Nat) (A : Option Addr) (c : Nat) (l : List S112) (B : Option Addr) (d : Nat) (m : List S115) (C : Option Addr) (e : Nat) (ps : List S77) (s : FV) : Prop where
 x : ∃ (go : Nat) (vs va : Value) (vo : List Value), Bk w0 W gb #[.slice A l.length c, .slice B m.length d, .slice C ps.length e, vs, va, .slice (some ⟨go, 0, none⟩) m.length m.length] go vs va vo (zbc s.1 s.2 0 ps) (atS 0 ps) (zbo m.length ps)
def RetBook (w : World) (A : Option Addr) (c : Nat) (l : List S112) (B : Option Addr) (d : Nat) (m : List S115) (C : Option Addr) (e : Nat) (ps : List S77) (s : FV) (en : Ending) (w' : World) : Prop := ∃ gb, en = .returned (.pointer (some ⟨gb, 0, none⟩)) ∧ IsBook w w' gb A c l B d m C e ps s
set_option maxRecDepth 100000 in
set_option maxHeartbeats 4000000 in
theorem newBook_any (A : Option Addr) (c : Nat) (l : List S112) (B : Option Addr) (d : Nat) (m : List S115) (C : Option Addr) (e : Nat) (ps : List S77) (w : World)
  (hg : GR w A c l B d m C e ps) (hf : Fair l.length m.length ps) (k : Nat) (s : FV) (hk : solveN l.length ps k (initF l.length, noV) = some s) (hfit : Fit s) :
  Calls Tryd.prog 64 #[.agg #[.slice A l.length c, .slice B m.length d, .slice C ps.length e]] w (RetBook w A c l B d m C e ps s) := by
 have HF := Lib.hid hf; have HK := Lib.hid hk; have HFT := Lib.hid hfit; have t1 := hf.t1; have t64 := hf.t64; have m128 := hf.m128; have hbA := zac (Below.refl w.heap.size w) (.cells #[.slice A l.length c, .slice B m.length d, .slice C ps.length e] 51); have HG0 := Lib.hid hg; have HX0 := Lib.hid (zau w (.cells #[.slice A l.length c, .slice B m.length d, .slice C ps.length e] 51)); have HBA := Lib.hid hbA; clear hg hf hk hfit hbA; have hmk : ∀ W : World, (Instr.makeSlice 23 (.int .i64 (m.length : Int)) (.int .i64 (m.length : Int))).run Tryd.prog W = .ok (.slice (some ⟨W.heap.size, 0, none⟩) m.length m.length) (W.alloc (.cells (Array.replicate m.length (Value.slice none 0 0)) 95)) := fun W => by
  rw [← List.toArray_replicate, ← made_one]; exact run_make_row' 23 95 (.slice none 0 0) 24 Tryd.underlying23 info95 rfl .i64 .i64 m.length (by omega) (by omega) W
 go_enter Tryd.func64, Tryd.ntmps64
 go_wp2_with fail
 generalize hw1 : w.alloc (.cells #[.slice A l.length c, .slice B m.length d, .slice C ps.length e] 51) = w1 at *; refine start_ (n := 8) (S := fun w' => w'.cell? ⟨w.heap.size, 0, none⟩ = some (.slice A l.length c) ∧ w'.cell? ⟨w.heap.size, 1, none⟩ = some (.slice B m.length d) ∧ w'.cell? ⟨w.heap.size, 2, none⟩ = some (.slice C ps.length e)) (ds := []) #[false, false, false, false, false, false, false, false] (by kernel_rfl) rfl rfl ⟨(zaa (zah HX0.out) 0), (zaa (zah HX0.out) 1), (zaa (zah HX0.out) 2)⟩ (fun hHeld => ?_)
 refine pe_ 1 (some 15) ?_ ?_ ?_ ?_ ?_; rotate_left
 ·intro w'; go_simp
  with_reducible rfl
 rotate_left
 ·simp only [nm_]; rfl
 refine te_ 0 (some 14) hHeld ?_ ?_ ?_ ?_ ?_; rotate_left
 ·rintro w' ⟨s0, s1, s2⟩; go_simp
  with_reducible rfl
 rotate_left
 ·simp only [nm_]; rfl
 refine te_ 2 (some 16) hHeld ?_ ?_ ?_ ?_ ?_; rotate_left
 ·rintro w' ⟨s0, s1, s2⟩; go_simp
  with_reducible rfl
 rotate_left
 ·simp only [nm_]; rfl
 refine pe_ 3 (some 17) ?_ ?_ ?_ ?_ ?_; rotate_left
 ·intro w'; go_simp
  with_reducible rfl
 rotate_left
 ·simp only [nm_]; rfl
 refine ou_ (i := 4) (N := some 18) rfl rfl (by kernel_rfl) (by decide) (fun K hK => ?_)
 refine value_ (w1 := ?_) (v := ?_) (by rfl) rfl ?_ ?_
 rotate_left 2
 ·go_simp; constructor
  ·rfl
  ·rfl
 refine hK.out _ _ ⟨(zaa (zah (zad HX0.out _)) 0), (zaa (zah (zad HX0.out _)) 1), (zaa (zah (zad HX0.out _)) 2)⟩ (fun hHeld => ?_)
 clear hK K; refine norm_ (a' := ?_) ?_ ?_; rotate_left
 ·show Act.put _ (some 18) _ = _; simp only [nm_]; rfl
 refine pe_ 5 (some 19) ?_ ?_ ?_ ?_ ?_; rotate_left
 ·intro w'; go_simp
  with_reducible rfl
 rotate_left
 ·simp only [nm_]; rfl
 refine ou_ (i := 6) (N := some 20) rfl rfl (by kernel_rfl) (by decide) (fun K hK => ?_)
 refine value_ (w1 := ?_) (v := ?_) (by rfl) rfl ?_ ?_
 rotate_left 2
 ·go_simp; constructor
  ·rfl
  ·rfl
 refine hK.out _ _ ⟨(zaa (zah (zad (zad HX0.out _) _)) 0), (zaa (zah (zad (zad HX0.out _) _)) 1), (zaa (zah (zad (zad HX0.out _) _)) 2)⟩ (fun hHeld => ?_)
 clear hK K; refine norm_ (a' := ?_) ?_ ?_; rotate_left
 ·show Act.put _ (some 20) _ = _; simp only [nm_]; rfl
 refine pe_ 7 (some 3) ?_ ?_ ?_ ?_ ?_; rotate_left
 ·intro w'; go_simp
  with_reducible rfl
 rotate_left
 ·simp only [nm_]; rfl
 refine done_ (by kernel_rfl) ?_
 clear hmk
 go_wp2_with fail
 have hlw1 : w.heap.size < w1.heap.size := zba HX0.out; have hbk := zah (zau (w1.alloc (.cells (Array.replicate m.length (Value.slice none 0 0)) 95)) (.cells #[.slice A l.length c, .slice B m.length d, .slice C ps.length e, .slice none 0 0, .slice none 0 0, .slice (some ⟨w1.heap.size, 0, none⟩) m.length m.length] 225)); rw [szA] at hbk; have HBk := Lib.hid (show Bk w ((w1.alloc (.cells (Array.replicate m.length (Value.slice none 0 0)) 95)).alloc (.cells #[.slice A l.length c, .slice B m.length d, .slice C ps.length e, .slice none 0 0, .slice none 0 0, .slice (some ⟨w1.heap.size, 0, none⟩) m.length m.length] 225)).drew (w1.heap.size + 1) #[.slice A l.length c, .slice B m.length d, .slice C ps.length e, .slice none 0 0, .slice none 0 0, .slice (some ⟨w1.heap.size, 0, none⟩) m.length m.length] w1.heap.size (.slice none 0 0) (.slice none 0 0) (List.replicate m.length (.slice none 0 0)) [] [] (zbo m.length []) from
  ⟨zaw (zac (zac HBA.out _) _), hbk, (by rw [List.toArray_replicate]; exact zah (zad (zau w1 _) _)), Kd.R_nil _ _ _ _ _, Kd.R_nil _ _ _ _ _, by rw [ofAll_nil]; exact Rows.nil EN _, fun j v q hv hq => by simp [Value.ownBlock], by omega⟩)
 have HX1 := Lib.hid (zah (zad (zad HX0.out (.cells (Array.replicate m.length (Value.slice none 0 0)) 95)) (.cells #[.slice A l.length c, .slice B m.length d, .slice C ps.length e, .slice none 0 0, .slice none 0 0, .slice (some ⟨w1.heap.size, 0, none⟩) m.length m.length] 225))); clear hbk HX0 HBA; generalize hgo : w1.heap.size = go at *; generalize ((w1.alloc (.cells (Array.replicate m.length (Value.slice none 0 0)) 95)).alloc (.cells #[.slice A l.length c, .slice B m.length d, .slice C ps.length e, .slice none 0 0, .slice none 0 0, .slice (some ⟨go, 0, none⟩) m.length m.length] 225)).drew = W2 at *; have HG2 := Lib.hid (HG0.out.below HBk.out.below); refine start_ (n := 6) (S := fun w' => w'.cell? ⟨w.heap.size, 0, none⟩ = some (.slice A l.length c) ∧ w'.cell? ⟨w.heap.size, 1, none⟩ = some (.slice B m.length d) ∧ w'.cell? ⟨w.heap.size, 2, none⟩ = some (.slice C ps.length e)) (ds := []) #[false, false, false, false, false, false] (by kernel_rfl) rfl rfl ⟨(zaa (zah HX1.out) 0), (zaa (zah HX1.out) 1), (zaa (zah HX1.out) 2)⟩ (fun hHeld => ?_)
 refine te_ 0 (some 21) hHeld ?_ ?_ ?_ ?_ ?_; rotate_left
 ·rintro w' ⟨s0, s1, s2⟩; go_simp
  with_reducible rfl
 rotate_left
 ·simp only [nm_]; rfl
 refine te_ 2 (some 23) hHeld ?_ ?_ ?_ ?_ ?_; rotate_left
 ·rintro w' ⟨s0, s1, s2⟩; go_simp
  with_reducible rfl
 rotate_left
 ·simp only [nm_]; rfl
 refine ou_ (i := 1) (N := some 22) rfl rfl (by kernel_rfl) (by decide) (fun K hK => ?_)
 refine goes_ Tryd.func96 (by kernel_rfl) rfl #[.agg #[.slice A l.length c, .slice B m.length d, .slice C ps.length e]] (by rfl) rfl rfl (by simp only [List.map_toArray, List.map_cons, List.map_nil]; rfl) ?_
 with_reducible refine (nullable_any A c l B d m C e ps _ (HG2.out.below (zaw (Below.refl _ _))) HF.out k s HK.out HFT.out).mono ?_
 rintro e3 w3 ⟨v4, rfl, hR4, hb3⟩; refine ⟨_, rfl, ?_⟩; refine hK.out _ _ ⟨(zaa (zak (zah HX1.out) hb3) 0), (zaa (zak (zah HX1.out) hb3) 1), (zaa (zak (zah HX1.out) hb3) 2)⟩ (fun hHeld => ?_)
 clear hK K; refine norm_ (a' := ?_) ?_ ?_; rotate_left
 ·show Act.put _ (some 22) _ = _; simp only [nm_]; rfl
 refine ou_ (i := 3) (N := some 24) rfl rfl (by kernel_rfl) (by decide) (fun K hK => ?_)
 refine goes_ Tryd.func97 (by kernel_rfl) rfl #[.agg #[.slice A l.length c, .slice B m.length d, .slice C ps.length e]] (by rfl) rfl rfl (by simp only [List.map_toArray, List.map_cons, List.map_nil]; rfl) ?_
 with_reducible refine (first_any A c l B d m C e ps _ ((HG2.out.below (zaw (Below.refl _ _))).below hb3) HF.out k s HK.out HFT.out).mono ?_
 rintro e4 w4 ⟨v5, rfl, hR5, hb4⟩; refine ⟨_, rfl, ?_⟩; refine hK.out _ _ ⟨(zaa (zak (zak (zah HX1.out) hb3) hb4) 0), (zaa (zak (zak (zah HX1.out) hb3) hb4) 1), (zaa (zak (zak (zah HX1.out) hb3) hb4) 2)⟩ (fun hHeld => ?_)
 clear hK K; refine norm_ (a' := ?_) ?_ ?_; rotate_left
 ·show Act.put _ (some 24) _ = _; simp only [nm_]; rfl
 refine pe_ 4 (some 4) ?_ ?_ ?_ ?_ ?_; rotate_left
 ·intro w'; go_simp
  with_reducible rfl
 rotate_left
 ·simp only [nm_]; rfl
 refine pe_ 5 (some 5) ?_ ?_ ?_ ?_ ?_; rotate_left
 ·intro w'; go_simp
  with_reducible rfl
 rotate_left
 ·simp only [nm_]; rfl
 refine done_ (by kernel_rfl) ?_
 have hsz3 : w.heap.size ≤ W2.heap.size := HBk.out.below.size; have HBx := Lib.hid (show Bx w w4 w.heap.size #[.slice A l.length c, .slice B m.length d, .slice C ps.length e] v4 (s.2.take (l.length + m.length)) v5 (s.1.take (l.length + m.length)) (go + 1) #[.slice A l.length c, .slice B m.length d, .slice C ps.length e, .slice none 0 0, .slice none 0 0, .slice (some ⟨go, 0, none⟩) m.length m.length] go (.slice none 0 0) (.slice none 0 0) (List.replicate m.length (.slice none 0 0)) [] [] (zbo m.length []) from
  ⟨(HBk.out.drew.bel hb3).bel hb4, zak (zak (zah HX1.out) hb3) hb4, Kd.R_lower (Kd.zbf hR4 hb4) hsz3, Kd.R_lower hR5 (Nat.le_trans hsz3 hb3.size)⟩)
 clear hR4 hR5 hb3 hb4 HBk HX1 HG2; obtain ⟨q, hq⟩ : ∃ q, q = l.length + m.length := ⟨_, rfl⟩; have hq192 : q ≤ 192 := by omega
 have hNS : (s.2.take (l.length + m.length)).length = q := by rw [List.length_take, HFT.out.lenV]; omega
 have hFS : (s.1.take (l.length + m.length)).length = q := by rw [List.length_take, HFT.out.len]; omega
 obtain ⟨g4, c4, rfl, -, -, -⟩ := Kd.R_form HBx.out.n (by rw [hNS]; omega)
 obtain ⟨g5, c5, rfl, -, -, -⟩ := Kd.R_form HBx.out.f (by rw [hFS]; omega)
 have HBy : Hid (Bx w w4 w.heap.size #[.slice A l.length c, .slice B m.length d, .slice C ps.length e] (.slice (some ⟨g4, 0, none⟩) q c4) (s.2.take q) (.slice (some ⟨g5, 0, none⟩) q c5) (s.1.take q) (go + 1) #[.slice A l.length c, .slice B m.length d, .slice C ps.length e, (.slice none 0 0), (.slice none 0 0), .slice (some ⟨go, 0, none⟩) m.length m.length] go (.slice none 0 0) (.slice none 0 0) (List.replicate m.length (.slice none 0 0)) [] [] (zbo m.length [])) := by
  have h := HBx.out; rw [hNS, hFS, ← hq] at h; exact Lib.hid h
 rw [hNS, hFS]; have HQ := Lib.hid hq; clear hNS hFS HBx hq; have hg2 := zaa HBy.out.g 2; simp at hg2
 go_wp2_with fail
 clear hg2; have hgob : go + 1 ≠ w.heap.size := by omega
 go_loopw [28] (fun v w' => ∃ (i : Nat) (vs va : Value) (vo : List Value), v = .int .i64 (i : Int) ∧ i ≤ ps.length ∧ Hid (Bx w w' w.heap.size #[.slice A l.length c, .slice B m.length d, .slice C ps.length e] (.slice (some ⟨g4, 0, none⟩) q c4) (s.2.take q) (.slice (some ⟨g5, 0, none⟩) q c5) (s.1.take q) (go + 1) #[.slice A l.length c, .slice B m.length d, .slice C ps.length e, vs, va, .slice (some ⟨go, 0, none⟩) m.length m.length] go vs va vo (zbc s.1 s.2 0 (ps.take i)) (atS 0 (ps.take i)) (zbo m.length (ps.take i)))) (fun v _ => ps.length - (intOf v).toNat)
 case atStart => exact ⟨0, _, _, _, rfl, Nat.zero_le _, HBy⟩
 case round =>
  clear HBy; obtain ⟨i, vs, va, vo, rfl, hi, HX⟩ := hrel; by_cases hil : i < ps.length
  ·obtain ⟨adp, Ar, cr, rfl, p0, p1, hcr, hrC⟩ := at_T77 HG0.out.hC (i : Int) (by omega) (by omega)
   rw [Int.toNat_natCast] at p0 p1; replace p0 := zan HX.out.b.below p0; replace p1 := zan HX.out.b.below p1; have HMEM := Lib.hid (rd77_mem hil); have HTS := Lib.hid (take_snoc77 hil); generalize zal ps (i : Int) = pr at *; obtain ⟨lhs, row⟩ := pr; simp only at p0 p1 hcr hrC; have HR := Lib.hid hrC; have hrow : row.length < 1048576 := HF.out.row HMEM.out; have hlo : -1 ≤ lhs := (HF.out.lhs _ HMEM.out).1; have hhi : lhs < m.length := (HF.out.lhs _ HMEM.out).2; have hpl := HF.out.len; have hdt : dots (ps.take i) + (row.length + 1) ≤ 1048576 := by
    have h := dots_take ps (i + 1); rw [HTS.out, dots_snoc] at h; have := HF.out.tot; show dots (ps.take i) + (row.length + 1) ≤ 1048576; simp only at h; omega
   have hib : decide ((i : Int) < (ps.length : Int)) = true := decide_eq_true (by omega)
   have hi0 : (0 : Int) ≤ (i : Int) := by omega
   have hi1 : (i : Int) < (ps.length : Int) := by omega
   have hiw : IntKind.i64.wrap ((i : Int) + 1) = (i : Int) + 1 := IntWalk.i64_in _ (by omega)
   have HX1 := Lib.hid (HX.out.alloc (.cells #[.int .i64 lhs, .slice Ar row.length cr] 77)); have HP1 := Lib.hid (zau wr (.cells #[.int .i64 lhs, .slice Ar row.length cr] 77)); obtain ⟨As, cs, rfl, hcs, -⟩ := Kd.zbb HX.out.b.sp; obtain ⟨Aa, ca, rfl, hca, -⟩ := Kd.zbb HX.out.b.at_; have hsl : (zbc s.1 s.2 0 (ps.take i)).length = dots (ps.take i) := spotsS_len _ _ _ _; rw [hsl] at HX HX1 hcs; obtain ⟨n, hn⟩ : ∃ n, n = dots (ps.take i) := ⟨_, rfl⟩; rw [← hn] at HX HX1 hcs hdt; have HN := Lib.hid hn; have HSL := Lib.hid hsl; clear hsl hn hrC; have b0 := zaa HX1.out.b.bk 3; have b1 := zaa HX1.out.b.bk 4; simp at b0 b1; have hpb : wr.heap.size < (wr.alloc (.cells #[.int .i64 lhs, .slice Ar row.length cr] 77)).heap.size := by rw [szA]; omega
   have HX2 := Lib.hid (HX1.out.alloc (.cells #[.int .i64 (n : Int)] 3)); have HP2 := Lib.hid (zad HP1.out (.cells #[.int .i64 (n : Int)] 3)); have hl2 := zau (wr.alloc (.cells #[.int .i64 lhs, .slice Ar row.length cr] 77)) (.cells #[.int .i64 (n : Int)] 3); rw [szA] at hl2; have HL2 := Lib.hid (C_lit1 (k := kN) (x := n) (cs := [.int .i64 (n : Int)]) rfl hl2); clear hl2; have hbo : ((atS 0 (ps.take i)).length + 1) * 8 ≤ 140737488355328 := by rw [atS_len, List.length_take]; omega
   have hg := HX.out.b.ge; have hgo2 : go + 1 < wr.heap.size := zba HX.out.b.bk
   go_wp2_with ((with_reducible refine zay (b := .append) (xs := #[.tmp 42, .tmp 44]) rfl ?_); refine Hid.out ?_)
   refine Lib.hid ?_
   at_builtin
   refine Kd.zbj kN (w0 := w) w.heap.size rfl (.tmp 42) (.tmp 44) 95 3 (.int .i64 0) 8 rfl Tryd.underlying95 info3 rfl (by decide) (by decide) _ (atS 0 (ps.take i)) [n] (some ⟨wr.heap.size + 1, 0, none⟩) 1 1 tru (fun _ => False) rfl rfl HX2.out.b.at_ HL2.out (fun _ _ h => h) (fun _ h => h.elim) (fun _ _ => trivial) HX2.out.b.below HX2.out.b.below.size hbo ?_
   intro v5 w5 ho1 hb1 hg1 hat1; have HX3 := Lib.hid (HX2.out.appAt ho1 hg1 hat1 hb1); have HP3 := Lib.hid (zas HP2.out hg1 (Kd.R_ne HX2.out.b.at_ HP2.out (by decide)))
   have hsz5 := hb1.size; clear ho1 hb1 hg1 hat1 HX1 HX2 HP1 HP2 HL2 b0 b1; obtain ⟨Aa5, ca5, hv5, -, -⟩ := Kd.zbb HX3.out.b.at_; generalize hna : (atS 0 (ps.take i) ++ [n]).length = na at hv5; have HNA := Lib.hid hna; subst hv5; clear hna; have b1 := zaa HX3.out.b.bk 4; have b1f := zae HX3.out.b.bk 4; simp at b1
   go_wp2_with ((with_reducible refine gate_ (.fieldAddr 77 (.tmp 7) 0) rfl ?_); refine Hid.out ?_)
   refine Lib.hid ?_; have HX4 : Hid (Bx w (w5.setCell ⟨go + 1, 4, none⟩ (.slice Aa5 na ca5)) w.heap.size #[.slice A l.length c, .slice B m.length d, .slice (some adp) ps.length e] (.slice (some ⟨g4, 0, none⟩) q c4) (s.2.take q) (.slice (some ⟨g5, 0, none⟩) q c5) (s.1.take q) (go + 1) #[.slice A l.length c, .slice B m.length d, .slice (some adp) ps.length e, (.slice As n cs), (.slice Aa5 na ca5), .slice (some ⟨go, 0, none⟩) m.length m.length] go (.slice As n cs) (.slice Aa5 na ca5) vo (zbc s.1 s.2 0 (ps.take i)) (atS 0 (ps.take i) ++ [n]) (zbo m.length (ps.take i))) := Lib.hid (HX3.out.setB 4 _ rfl); have HP4 := Lib.hid (zar HP3.out (p := ⟨go + 1, 4, none⟩) (show wr.heap.size ≠ go + 1 by omega) (.slice Aa5 na ca5))
   have hpbl : wr.heap.size < (w5.setCell ⟨go + 1, 4, none⟩ (.slice Aa5 na ca5)).heap.size := zba HP4.out; clear HX3 HP3 b1 b1f hsz5 hpb; generalize hpb : wr.heap.size = pb at *; generalize w5.setCell ⟨go + 1, 4, none⟩ (.slice Aa5 na ca5) = W6 at *; have p0' := zaa HP4.out 0; simp at p0'; clear p0 p1; by_cases hl0 : 0 ≤ lhs
   case' pos =>
    obtain ⟨x, rfl⟩ := Int.eq_ofNat_of_zero_le hl0; have hxm : x < m.length := by omega
    have hge : decide ((x : Int) ≥ 0) = true := decide_eq_true (by omega)
    go_wp2_with fail
    obtain ⟨vx, hvx⟩ : ∃ vx, vo[x]? = some vx := ⟨_, List.getElem?_eq_getElem (by rw [HX4.out.b.of_.len, ofAll_len]; exact hxm)⟩
    obtain ⟨yx, hyx, hrx⟩ := HX4.out.b.of_.at_ hvx; rw [ofAll_get hxm] at hyx; cases hyx; obtain ⟨Ax, cx, rfl, hcx, -⟩ := Kd.zbb hrx; generalize hlx : (ofRow x 0 (ps.take i)).length = lx at hcx hvx hrx; have hlxb : lx ≤ ps.length := by rw [← hlx]; exact Nat.le_trans (ofRow_len x _ 0) (by rw [List.length_take]; omega)
    have HLX := Lib.hid hlx; have HVX := Lib.hid hvx; have hbo2 : ((ofRow x 0 (ps.take i)).length + 1) * 8 ≤ 140737488355328 := by rw [hlx]; omega
    clear hlx hvx hrx; have x0 : (0 : Int) ≤ (x : Int) := Int.natCast_nonneg _; have x1 : (x : Int) < (m.length : Int) := by omega
    have HX5 := Lib.hid (HX4.out.drew.alloc (.cells #[.int .i64 (n : Int)] 3)); have HP5 := Lib.hid (zad (zah HP4.out) (.cells #[.int .i64 (n : Int)] 3)); have HL5 := Lib.hid (C_lit1 (k := kN) (x := n) (cs := [.int .i64 (n : Int)]) rfl (zau W6.drew (.cells #[.int .i64 (n : Int)] 3))); obtain ⟨yx, hyx, hrx⟩ := HX5.out.b.of_.at_ HVX.out; rw [ofAll_get hxm] at hyx; cases hyx; have HRX := Lib.hid hrx; clear hrx; refine start_ (n := 19) (S := fun w' => w'.cell? ⟨go + 1, 5, none⟩ = some (.slice (some ⟨go, 0, none⟩) m.length m.length) ∧ w'.cell? ⟨pb, 0, none⟩ = some (.int .i64 (x : Int)) ∧ w'.cell? ⟨go, x, none⟩ = some (.slice Ax lx cx)) (ds := [18]) #[false, false, false, false, false, false, false, false, false, false, false, false, false, false, false, false, false, false, false] (by kernel_rfl) rfl rfl ⟨(zaa (zah HX4.out.b.bk) 5), (zaa (zah HP4.out) 0), ((zaa (zah HX4.out.b.ob) x).trans (by rw [List.getElem?_toArray]; exact HVX.out))⟩ (fun hHeld => ?_)
    refine pe_ 0 (some 51) ?_ ?_ ?_ ?_ ?_; rotate_left
    ·intro w'; go_simp
     with_reducible rfl
    rotate_left
    ·simp only [nm_]; rfl
    refine pe_ 1 (some 52) ?_ ?_ ?_ ?_ ?_; rotate_left
    ·intro w'; go_simp
     with_reducible rfl
    rotate_left
    ·simp only [nm_]; rfl
    refine pe_ 2 (some 53) ?_ ?_ ?_ ?_ ?_; rotate_left
    ·intro w'; go_simp
     with_reducible rfl
    rotate_left
    ·simp only [nm_]; rfl
    refine pe_ 4 (some 55) ?_ ?_ ?_ ?_ ?_; rotate_left
    ·intro w'; go_simp
     with_reducible rfl
    rotate_left
    ·simp only [nm_]; rfl
    refine pe_ 6 (some 57) ?_ ?_ ?_ ?_ ?_; rotate_left
    ·intro w'; go_simp
     with_reducible rfl
    rotate_left
    ·simp only [nm_]; rfl
    refine pe_ 7 (some 58) ?_ ?_ ?_ ?_ ?_; rotate_left
    ·intro w'; go_simp
     with_reducible rfl
    rotate_left
    ·simp only [nm_]; rfl
    refine pe_ 8 (some 59) ?_ ?_ ?_ ?_ ?_; rotate_left
    ·intro w'; go_simp
     with_reducible rfl
    rotate_left
    ·simp only [nm_]; rfl
    refine pe_ 10 (some 61) ?_ ?_ ?_ ?_ ?_; rotate_left
    ·intro w'; go_simp
     with_reducible rfl
    rotate_left
    ·simp only [nm_]; rfl
    refine pe_ 14 (some 65) ?_ ?_ ?_ ?_ ?_; rotate_left
    ·intro w'; go_simp
     with_reducible rfl
    rotate_left
    ·simp only [nm_]; rfl
    refine te_ 3 (some 54) hHeld ?_ ?_ ?_ ?_ ?_; rotate_left
    ·rintro w' ⟨s0, s1, s2⟩; go_simp
     with_reducible rfl
    rotate_left
    ·simp only [nm_]; rfl
    refine te_ 5 (some 56) hHeld ?_ ?_ ?_ ?_ ?_; rotate_left
    ·rintro w' ⟨s0, s1, s2⟩; go_simp
     with_reducible rfl
    rotate_left
    ·simp only [nm_]; rfl
    refine te_ 9 (some 60) hHeld ?_ ?_ ?_ ?_ ?_; rotate_left
    ·rintro w' ⟨s0, s1, s2⟩; go_simp
     with_reducible rfl
    rotate_left
    ·simp only [nm_]; rfl
    refine te_ 11 (some 62) hHeld ?_ ?_ ?_ ?_ ?_; rotate_left
    ·rintro w' ⟨s0, s1, s2⟩; go_simp
     with_reducible rfl
    rotate_left
    ·simp only [nm_]; rfl
    refine pe_ 12 (some 63) ?_ ?_ ?_ ?_ ?_; rotate_left
    ·intro w'; go_simp
     with_reducible rfl
    rotate_left
    ·simp only [nm_]; rfl
    refine te_ 13 (some 64) hHeld ?_ ?_ ?_ ?_ ?_; rotate_left
    ·rintro w' ⟨s0, s1, s2⟩; go_simp
     with_reducible rfl
    rotate_left
    ·simp only [nm_]; rfl
    refine ou_ (i := 15) (N := some 66) rfl rfl (by kernel_rfl) (by decide) (fun K hK => ?_)
    refine value_ (w1 := ?_) (v := ?_) (by rfl) rfl ?_ ?_
    rotate_left 2
    ·go_simp; constructor
     ·rfl
     ·rfl
    refine hK.out _ _ ⟨(zaa (zah (zad HX4.out.b.bk _)) 5), (zaa (zah (zad HP4.out _)) 0), ((zaa (zah (zad HX4.out.b.ob _)) x).trans (by rw [List.getElem?_toArray]; exact HVX.out))⟩ (fun hHeld => ?_)
    clear hK K; refine norm_ (a' := ?_) ?_ ?_; rotate_left
    ·show Act.put _ (some 66) _ = _; simp only [nm_]; rfl
    refine ou_ (i := 16) (N := some 67) rfl rfl (by kernel_rfl) (by decide) (fun K hK => ?_)
    refine Kd.R_append_rows_step kN (w0 := w) w.heap.size (by rfl) (.tmp 64) (.tmp 66) 95 3 (.int .i64 0) 8 rfl Tryd.underlying95 info3 rfl (by decide) (by decide) _ (ofRow x 0 (ps.take i)) [n] (some ⟨_, 0, none⟩) 1 1 tru (fun _ => False) rfl rfl (Kd.R_mono HRX.out (fun _ _ => trivial)) HL5.out (fun _ _ h => h) (fun _ h => h.elim) (fun _ _ => trivial) HX5.out.b.below HX5.out.b.below.size hbo2 ?_
    intro v7 w7 ho7 hb7 hg7 hat7; obtain ⟨A7, c7, hv7, -, -⟩ := Kd.zbb ho7; generalize hl7 : (ofRow x 0 (ps.take i) ++ [n]).length = l7 at hv7; have HL7 := Lib.hid hl7; subst hv7; clear hl7; have hfz7 := zae (zas HX5.out.b.ob hg7 (Kd.R_ne HRX.out HX5.out.b.ob (by decide))) x
    refine hK.out _ _ ⟨(zaa (zas HX5.out.b.bk hg7 (Kd.R_ne HRX.out HX5.out.b.bk (by decide))) 5), (zaa (zas HP5.out hg7 (Kd.R_ne HRX.out HP5.out (by decide))) 0), ((zaa (zas HX5.out.b.ob hg7 (Kd.R_ne HRX.out HX5.out.b.ob (by decide))) x).trans (by rw [List.getElem?_toArray]; exact HVX.out))⟩ (fun hHeld => ?_)
    clear hK K; refine norm_ (a' := ?_) ?_ ?_; rotate_left
    ·show Act.put _ (some 67) _ = _; simp only [nm_]; rfl
    refine pe_ 17 (some 68) ?_ ?_ ?_ ?_ ?_; rotate_left
    ·intro w'; go_simp
     with_reducible rfl
    rotate_left
    ·simp only [nm_]; rfl
    refine lu_ (i := 18) (N := none) rfl rfl (by kernel_rfl) (by decide) (fun K hK => ?_)
    refine skip_ (w1 := ?_) (by rfl) rfl ?_ ?_
    rotate_left
    ·go_simp; rfl
    refine hK.out _ _ ?_; clear hK K; refine done_ (by kernel_rfl) ?_
    clear hfz7; have HX7 : Hid (Bx w (w7.setCell ⟨go, x, none⟩ (.slice A7 l7 c7)) w.heap.size #[.slice A l.length c, .slice B m.length d, .slice (some adp) ps.length e] (.slice (some ⟨g4, 0, none⟩) q c4) (s.2.take q) (.slice (some ⟨g5, 0, none⟩) q c5) (s.1.take q) (go + 1) #[.slice A l.length c, .slice B m.length d, .slice (some adp) ps.length e, (.slice As n cs), (.slice Aa5 na ca5), .slice (some ⟨go, 0, none⟩) m.length m.length] go (.slice As n cs) (.slice Aa5 na ca5) (vo.set x (.slice A7 l7 c7)) (zbc s.1 s.2 0 (ps.take i)) (atS 0 (ps.take i) ++ [n]) (zbo m.length (ps.take i ++ [⟨(x : Int), row⟩]))) := Lib.hid (by
     have h := HX5.out.appOf HVX.out ho7 hg7 hat7 hb7; rw [HN.out] at h ⊢; rw [ofAll_snoc (p := ⟨(x : Int), row⟩) rfl hxm] at h; exact h)
    have HP7 := Lib.hid (zar (zas HP5.out hg7 (Kd.R_ne HRX.out HP5.out (by decide))) (p := ⟨go, x, none⟩) (show pb ≠ go by omega) (.slice A7 l7 c7))
    clear HX5 HP5 HL5 HRX ho7 hg7 hat7 hb7 HVX HLX HX4 HP4 p0' hge x0 x1 hxm; generalize w7.setCell ⟨go, x, none⟩ (.slice A7 l7 c7) = W7 at *; generalize hvo7 : vo.set x (.slice A7 l7 c7) = vo7 at *; generalize hlx9 : (x : Int) = lhs at *
   case' neg =>
    have hge : decide (lhs ≥ 0) = false := decide_eq_false (by omega)
    go_wp2_with ((with_reducible refine gate_ (.fieldAddr 77 (.tmp 7) 1) rfl ?_); refine Hid.out ?_)
    refine Lib.hid ?_; have HX7 : Hid (Bx w W6 w.heap.size #[.slice A l.length c, .slice B m.length d, .slice (some adp) ps.length e] (.slice (some ⟨g4, 0, none⟩) q c4) (s.2.take q) (.slice (some ⟨g5, 0, none⟩) q c5) (s.1.take q) (go + 1) #[.slice A l.length c, .slice B m.length d, .slice (some adp) ps.length e, (.slice As n cs), (.slice Aa5 na ca5), .slice (some ⟨go, 0, none⟩) m.length m.length] go (.slice As n cs) (.slice Aa5 na ca5) vo (zbc s.1 s.2 0 (ps.take i)) (atS 0 (ps.take i) ++ [n]) (zbo m.length (ps.take i ++ [⟨lhs, row⟩]))) := Lib.hid (by
     rw [ofAll_neg (p := ⟨lhs, row⟩) (by show lhs < 0; omega)]
     exact HX4.out)
    have HP7 := Lib.hid HP4.out; clear HX4 HP4 p0' hge; generalize W6 = W7 at *; generalize vo = vo7 at *
   all_goals
    have q1 := zaa HP7.out 1; simp at q1; have hw10 : IntKind.i64.wrap ((row.length : Int) + 1) = ((row.length + 1 : Nat) : Int) := by rw [IntWalk.i64_in _ (by omega)]; omega
    go_wp2_with fail
    clear q1; have HLT2 := Lib.hid (show True from trivial)
    go_loopw [73] (fun v w' => ∃ (j : Nat) (vs : Value), v = .int .i64 (j : Int) ∧ j ≤ row.length + 1 ∧ Hid (Bx w w' w.heap.size #[.slice A l.length c, .slice B m.length d, .slice (some adp) ps.length e] (.slice (some ⟨g4, 0, none⟩) q c4) (s.2.take q) (.slice (some ⟨g5, 0, none⟩) q c5) (s.1.take q) (go + 1) #[.slice A l.length c, .slice B m.length d, .slice (some adp) ps.length e, vs, (.slice Aa5 na ca5), .slice (some ⟨go, 0, none⟩) m.length m.length] go vs (.slice Aa5 na ca5) vo7 ((zbc s.1 s.2 0 (ps.take i)) ++ (List.range j).map (spotB i)) (atS 0 (ps.take i) ++ [n]) (zbo m.length (ps.take i ++ [⟨lhs, row⟩]))) ∧ Hid (w'.heap[pb]? = some (Obj.cells #[.int .i64 lhs, .slice Ar row.length cr] 77 (0, 0)))) (fun v _ => row.length + 1 - (intOf v).toNat)
    case atStart => exact ⟨0, _, rfl, Nat.zero_le _, Lib.hid (by rw [List.range_zero, List.map_nil, List.append_nil]; exact HX7.out), HP7⟩
    case round =>
     clear HX7 HP7; obtain ⟨j, vs, rfl, hj, HX, HP⟩ := hrel; by_cases hjl : j < row.length + 1
     ·have hjb : decide ((j : Int) < ((row.length + 1 : Nat) : Int)) = true := decide_eq_true (by omega)
      have hjw : IntKind.i64.wrap ((j : Int) + 1) = (j : Int) + 1 := IntWalk.i64_in _ (by omega)
      obtain ⟨As2, cs2, rfl, hcs2, -⟩ := Kd.zbb HX.out.b.sp; have hsl2 : ((zbc s.1 s.2 0 (ps.take i)) ++ (List.range j).map (spotB i)).length = n + j := by rw [List.length_append, HSL.out, ← HN.out, List.length_map, List.length_range]
      rw [hsl2] at HX hcs2; have HSL2 := Lib.hid hsl2; have hbo3 : (((zbc s.1 s.2 0 (ps.take i)) ++ (List.range j).map (spotB i)).length + 1) * 40 ≤ 140737488355328 := by rw [hsl2]; omega
      clear hsl2; have b0 := zaa HX.out.b.bk 3; simp at b0; have HX2 := Lib.hid (HX.out.alloc (.cells #[.int .i64 (i : Int), .int .i64 (j : Int), .int .i64 (-1), .int .u64 0, .bool true] 230)); have HP2 := Lib.hid (zad HP.out (.cells #[.int .i64 (i : Int), .int .i64 (j : Int), .int .i64 (-1), .int .u64 0, .bool true] 230)); have HL2 := Lib.hid (C_lit1 (k := k230) (x := spotB i j) (k230_mk _ _) (zau wr (.cells #[.int .i64 (i : Int), .int .i64 (j : Int), .int .i64 (-1), .int .u64 0, .bool true] 230)))
      go_wp2_with ((with_reducible refine zay (b := .append) (xs := #[.tmp 80, .tmp 84]) rfl ?_); refine Hid.out ?_)
      refine Lib.hid ?_
      at_builtin
      refine Kd.zbj k230 (w0 := w) w.heap.size rfl (.tmp 80) (.tmp 84) 223 230 (.agg #[.int .i64 0, .int .i64 0, .int .i64 0, .int .u64 0, .bool false]) 40 rfl Tryd.underlying223 info230 rfl (by decide) (by decide) _ ((zbc s.1 s.2 0 (ps.take i)) ++ (List.range j).map (spotB i)) [spotB i j] (some ⟨_, 0, none⟩) 1 1 tru (fun _ => False) rfl rfl HX2.out.b.sp HL2.out (fun _ _ h => h) (fun _ h => h.elim) (fun _ _ => trivial) HX2.out.b.below HX2.out.b.below.size hbo3 ?_
      intro v8 w8 ho8 hb8 hg8 hat8; have HX3 := Lib.hid (HX2.out.appSp ho8 hg8 hb8); have HP3 := Lib.hid (zas HP2.out hg8 (Kd.R_ne HX2.out.b.sp HP2.out (by decide)))
      clear ho8 hb8 hg8 hat8 HX2 HP2 HL2 b0; obtain ⟨A8, c8, hv8, -, -⟩ := Kd.zbb HX3.out.b.sp; generalize hn8 : ((zbc s.1 s.2 0 (ps.take i)) ++ (List.range j).map (spotB i) ++ [spotB i j]).length = n8 at hv8; subst hv8; clear hn8; have b1 := zaa HX3.out.b.bk 3; have b1f := zae HX3.out.b.bk 3; simp at b1
      go_wp2_with fail
      go_roundw
      case rel => exact ⟨j + 1, _, by rw [Int.natCast_add]; rfl, by omega, Lib.hid (by
       rw [List.range_succ, List.map_append, ← List.append_assoc]; exact HX3.out.setB 3 _ rfl), Lib.hid (zar HP3.out (p := ⟨go + 1, 3, none⟩) (show pb ≠ go + 1 by omega) _)⟩
      case measure => simp only [intOf]; omega
     ·have hjb : decide ((j : Int) < ((row.length + 1 : Nat) : Int)) = false := decide_eq_false (by omega)
      have hje : j = row.length + 1 := by omega
      subst hje; have HX9 : Hid (Bx w wr w.heap.size #[.slice A l.length c, .slice B m.length d, .slice (some adp) ps.length e] (.slice (some ⟨g4, 0, none⟩) q c4) (s.2.take q) (.slice (some ⟨g5, 0, none⟩) q c5) (s.1.take q) (go + 1) #[.slice A l.length c, .slice B m.length d, .slice (some adp) ps.length e, vs, (.slice Aa5 na ca5), .slice (some ⟨go, 0, none⟩) m.length m.length] go vs (.slice Aa5 na ca5) vo7 ((zbc s.1 s.2 0 (ps.take i)) ++ rowAt s.1 s.2 i row row.length) (atS 0 (ps.take i) ++ [n]) (zbo m.length (ps.take i ++ [⟨lhs, row⟩]))) := Lib.hid (by rw [rowAt_top]; exact HX.out)
      clear HX; have q1 := zaa HP.out 1; simp at q1; have hw15 : IntKind.i64.wrap ((row.length : Int) - 1) = (row.length : Int) - 1 := IntWalk.i64_in _ (by omega)
      go_wp2_with fail
      clear q1 hw15; have hz0 : IntKind.i64.wrap (-1 + 0) = -1 := rfl
      go_loopw [10] (fun v w' => ∃ (z : Int) (vs : Value), v = .int .i64 z ∧ -1 ≤ z ∧ z < row.length ∧ Hid (Bx w w' w.heap.size #[.slice A l.length c, .slice B m.length d, .slice (some adp) ps.length e] (.slice (some ⟨g4, 0, none⟩) q c4) (s.2.take q) (.slice (some ⟨g5, 0, none⟩) q c5) (s.1.take q) (go + 1) #[.slice A l.length c, .slice B m.length d, .slice (some adp) ps.length e, vs, (.slice Aa5 na ca5), .slice (some ⟨go, 0, none⟩) m.length m.length] go vs (.slice Aa5 na ca5) vo7 ((zbc s.1 s.2 0 (ps.take i)) ++ rowAt s.1 s.2 i row (z + 1).toNat) (atS 0 (ps.take i) ++ [n]) (zbo m.length (ps.take i ++ [⟨lhs, row⟩]))) ∧ Hid (w'.heap[pb]? = some (Obj.cells #[.int .i64 lhs, .slice Ar row.length cr] 77 (0, 0)))) (fun v _ => (intOf v + 1).toNat)
      case atStart => exact ⟨(row.length : Int) - 1, _, rfl, by omega, by omega, Lib.hid (by
       rw [show ((row.length : Int) - 1 + 1).toNat = row.length by omega]
       exact HX9.out), HP⟩
      case round =>
       clear HX9 HP hz0; obtain ⟨z, vs, rfl, hz1, hz2, HX, HP⟩ := hrel; by_cases hz0 : 0 ≤ z
       ·obtain ⟨y, rfl⟩ := Int.eq_ofNat_of_zero_le hz0; have hyl : y < row.length := by omega
        have hz3 : -1 ≤ (y : Int) - 1 := by omega
        have hz4 : (y : Int) - 1 < (row.length : Int) := by omega
        have hzb : decide ((y : Int) ≥ 0) = true := decide_eq_true (by omega)
        have hzw : IntKind.i64.wrap ((y : Int) - 1) = (y : Int) - 1 := IntWalk.i64_in _ (by omega)
        have hnw : IntKind.i64.wrap ((n : Int) + (y : Int)) = ((n + y : Nat) : Int) := by rw [IntWalk.i64_in _ (by omega)]; omega
        rw [show ((y : Int) + 1).toNat = y + 1 by omega] at HX
        have hsl3 : ((zbc s.1 s.2 0 (ps.take i)) ++ rowAt s.1 s.2 i row (y + 1)).length = n + (row.length + 1) := by rw [List.length_append, HSL.out, ← HN.out, rowAt_len]
        obtain ⟨gs, cs3, rfl, -, -, -⟩ := Kd.R_form HX.out.b.sp (by rw [hsl3]; omega)
        rw [hsl3] at HX; clear hsl3; have hel : ((zbc s.1 s.2 0 (ps.take i)) ++ rowAt s.1 s.2 i row (y + 1))[n + y]? = some (spotB i y) := by
         rw [app_get (by rw [HSL.out, ← HN.out]), rowAt_get (by omega), if_neg (by omega)]
        have HEL := Lib.hid hel; have b0 := zaa HX.out.b.bk 3; have q1 := zaa HP.out 1; simp at b0 q1; have ny0 : (0 : Int) ≤ ((n + y : Nat) : Int) := Int.natCast_nonneg _; have ny1 : ((n + y : Nat) : Int) < ((n + (row.length + 1) : Nat) : Int) := by omega
        obtain ⟨adr, rfl, r0, -, -⟩ := zbm (Kd.zav HR.out HX.out.b.below) (y : Int) (by omega) (by omega)
        rw [Int.toNat_natCast] at r0; have HSY := Lib.hid (symAt_rd hyl); have s2 := (sp_at HX.out.b.sp hel 2).1 (.int .i64 (-1)) rfl; have s2f := (sp_at HX.out.b.sp hel 2).2; have y0 : (0 : Int) ≤ (y : Int) := Int.natCast_nonneg _; have y1 : (y : Int) < (row.length : Int) := by omega
        clear hel; generalize (zax row (y : Int)).f0 = sy at *; have hyw : IntKind.i64.wrap ((y : Int) + 1) = (y : Int) + 1 := IntWalk.i64_in _ (by omega)
        have HX1 : Hid (Bx w (wr.setCell ⟨gs, (n + y) * 5 + 2, none⟩ (.int .i64 sy)) w.heap.size #[.slice A l.length c, .slice B m.length d, .slice (some adp) ps.length e] (.slice (some ⟨g4, 0, none⟩) q c4) (s.2.take q) (.slice (some ⟨g5, 0, none⟩) q c5) (s.1.take q) (go + 1) #[.slice A l.length c, .slice B m.length d, .slice (some adp) ps.length e, (.slice (some ⟨gs, 0, none⟩) (n + (row.length + 1)) cs3), (.slice Aa5 na ca5), .slice (some ⟨go, 0, none⟩) m.length m.length] go (.slice (some ⟨gs, 0, none⟩) (n + (row.length + 1)) cs3) (.slice Aa5 na ca5) vo7 ((zbc s.1 s.2 0 (ps.take i)) ++ (rowAt s.1 s.2 i row (y + 1)).set y ⟨i, y, sy, 0, true⟩) (atS 0 (ps.take i) ++ [n]) (zbo m.length (ps.take i ++ [⟨lhs, row⟩]))) := Lib.hid (by
         have h := HX.out.setSp rfl (n + y) (spotB i y) { spotB i y with f2 := sy } HEL.out 2 (by decide) (.int .i64 sy) (fun W b ok cs hm => m230_sym _ _ hm)
         rw [app_set (by rw [HSL.out, ← HN.out])] at h
         exact h)
        have hne1 : pb ≠ gs := by
         obtain ⟨cells, hc⟩ := Kd.R_typed HX.out.b.sp gs rfl; exact blk_ne HP.out hc (by decide)
        have HP1 := Lib.hid (zar HP.out (p := ⟨gs, (n + y) * 5 + 2, none⟩) hne1 (.int .i64 sy)); by_cases hy1 : y + 1 < row.length
        ·have hyb : decide ((y : Int) + 1 < (row.length : Int)) = true := decide_eq_true (by omega)
         go_wp2_with fail
         clear b0 q1 r0 s2 s2f; have hgl1 : gs < (wr.setCell ⟨gs, (n + y) * 5 + 2, none⟩ (.int .i64 sy)).heap.size := Kd.R_lt HX1.out.b.sp gs rfl; generalize wr.setCell ⟨gs, (n + y) * 5 + 2, none⟩ (.int .i64 sy) = V1 at *; have hnw1 : IntKind.i64.wrap ((n : Int) + (y : Int) + 1) = (n : Int) + (y : Int) + 1 := IntWalk.i64_in _ (by omega)
         have ny2 : (0 : Int) ≤ (n : Int) + (y : Int) + 1 := by omega
         have ny3 : (n : Int) + (y : Int) + 1 < (n : Int) + ((row.length : Int) + 1) := by omega
         have ny4 : ((n : Int) + (y : Int) + 1).toNat = n + y + 1 := by omega
         have hel2 : ((zbc s.1 s.2 0 (ps.take i)) ++ (rowAt s.1 s.2 i row (y + 1)).set y ⟨i, y, sy, 0, true⟩)[n + y + 1]? = some (spotF s.1 s.2 i row (y + 1)) := by
          rw [Nat.add_assoc, app_get (by rw [HSL.out, ← HN.out]), List.getElem?_set_ne (by omega), rowAt_get (by omega), if_pos (Nat.le_refl _)]
         obtain ⟨adr', hadr, r2, -, -⟩ := zbm (Kd.zav HR.out HX1.out.b.below) ((y + 1 : Nat) : Int) (by omega) (by omega)
         cases hadr; rw [Int.toNat_natCast] at r2; have hs2 := HF.out.rhs _ HMEM.out _ (rd110_mem hy1); have HLK := Lib.hid (lk_cons (F := s.1) (V := s.2) hy1); generalize (zax row ((y + 1 : Nat) : Int)).f0 = sy2 at *; obtain ⟨nx, rfl⟩ := Int.eq_ofNat_of_zero_le hs2.1; have hnx : nx < q := by have := HQ.out; omega
         have hyi : (y : Int) + 1 = ((y + 1 : Nat) : Int) := by omega
         have yy1 : (y : Int) + 1 < (row.length : Int) := by omega
         have yy0 : (0 : Int) ≤ (y : Int) + 1 := by omega
         have hyw2 : IntKind.i64.wrap ((y : Int) + 1) = ((y + 1 : Nat) : Int) := by rw [hyw, hyi]
         have HYI := Lib.hid hyi; clear hyi hyw2; have HEL2 := Lib.hid hel2; clear hel2; generalize hrr : (lk s.1 s.2 (row.drop (y + 1 + 1))).1 = rr at *; generalize hoo : (lk s.1 s.2 (row.drop (y + 1 + 1))).2 = oo at *; have HRR := Lib.hid hrr; have HOO := Lib.hid hoo; clear hrr hoo; refine start_ (n := 20) (S := fun w' => w'.cell? ⟨go + 1, 3, none⟩ = some (.slice (some ⟨gs, 0, none⟩) (n + (row.length + 1)) cs3) ∧ w'.cell? ⟨gs, (n + y + 1) * 5, none⟩ = some (.int .i64 (i : Int)) ∧ w'.cell? ⟨gs, (n + y + 1) * 5 + 1, none⟩ = some (.int .i64 ((y + 1 : Nat) : Int)) ∧ w'.cell? ⟨gs, (n + y + 1) * 5 + 2, none⟩ = some (.int .i64 (symAt row (y + 1))) ∧ w'.cell? ⟨gs, (n + y + 1) * 5 + 3, none⟩ = some (.int .u64 (rr : Int)) ∧ w'.cell? ⟨gs, (n + y + 1) * 5 + 4, none⟩ = some (.bool oo) ∧ w'.cell? ⟨pb, 1, none⟩ = some (.slice (some adr) row.length cr) ∧ w'.cell? (adr.add ((y + 1) * 3)) = some (.int .i64 (nx : Int))) (ds := []) #[false, false, false, false, false, false, false, false, false, false, false, false, false, false, false, false, false, false, false, false] (by kernel_rfl) rfl rfl ⟨(zaa HX1.out.drew.b.bk 3), ((sp_at HX1.out.drew.b.sp HEL2.out 0).1 (.int .i64 (i : Int)) (by unfold spotF; rw [HRR.out, HOO.out]; rfl)), ((sp_at HX1.out.drew.b.sp HEL2.out 1).1 (.int .i64 ((y + 1 : Nat) : Int)) (by unfold spotF; rw [HRR.out, HOO.out]; rfl)), ((sp_at HX1.out.drew.b.sp HEL2.out 2).1 (.int .i64 (symAt row (y + 1))) (by unfold spotF; rw [HRR.out, HOO.out]; rfl)), ((sp_at HX1.out.drew.b.sp HEL2.out 3).1 (.int .u64 (rr : Int)) (by unfold spotF; rw [HRR.out, HOO.out]; rfl)), ((sp_at HX1.out.drew.b.sp HEL2.out 4).1 (.bool oo) (by unfold spotF; rw [HRR.out, HOO.out]; rfl)), (zaa (zah HP1.out) 1), (zan (zaw (Below.refl _ _)) r2)⟩ (fun hHeld => ?_)
         refine pe_ 0 (some 120) ?_ ?_ ?_ ?_ ?_; rotate_left
         ·intro w'; go_simp
          with_reducible rfl
         rotate_left
         ·simp only [nm_]; rfl
         refine pe_ 1 (some 121) ?_ ?_ ?_ ?_ ?_; rotate_left
         ·intro w'; go_simp
          with_reducible rfl
         rotate_left
         ·simp only [nm_]; rfl
         refine pe_ 2 (some 122) ?_ ?_ ?_ ?_ ?_; rotate_left
         ·intro w'; go_simp
          with_reducible rfl
         rotate_left
         ·simp only [nm_]; rfl
         refine pe_ 4 (some 124) ?_ ?_ ?_ ?_ ?_; rotate_left
         ·intro w'; go_simp
          with_reducible rfl
         rotate_left
         ·simp only [nm_]; rfl
         refine pe_ 5 (some 125) ?_ ?_ ?_ ?_ ?_; rotate_left
         ·intro w'; go_simp
          with_reducible rfl
         rotate_left
         ·simp only [nm_]; rfl
         refine pe_ 6 (some 126) ?_ ?_ ?_ ?_ ?_; rotate_left
         ·intro w'; go_simp
          with_reducible rfl
         rotate_left
         ·simp only [nm_]; rfl
         refine pe_ 7 (some 127) ?_ ?_ ?_ ?_ ?_; rotate_left
         ·intro w'; go_simp
          with_reducible rfl
         rotate_left
         ·simp only [nm_]; rfl
         refine pe_ 10 (some 130) ?_ ?_ ?_ ?_ ?_; rotate_left
         ·intro w'; go_simp
          with_reducible rfl
         rotate_left
         ·simp only [nm_]; rfl
         refine pe_ 12 (some 132) ?_ ?_ ?_ ?_ ?_; rotate_left
         ·intro w'; go_simp
          with_reducible rfl
         rotate_left
         ·simp only [nm_]; rfl
         refine pe_ 13 (some 133) ?_ ?_ ?_ ?_ ?_; rotate_left
         ·intro w'; go_simp
          with_reducible rfl
         rotate_left
         ·simp only [nm_]; rfl
         refine te_ 3 (some 123) hHeld ?_ ?_ ?_ ?_ ?_; rotate_left
         ·rintro w' ⟨s0, s1, s2, s3, s4, s5, s6, s7⟩; go_simp
          with_reducible rfl
         rotate_left
         ·simp only [nm_]; rfl
         refine pe_ 8 (some 128) ?_ ?_ ?_ ?_ ?_; rotate_left
         ·intro w'; go_simp
          with_reducible rfl
         rotate_left
         ·simp only [nm_]; rfl
         refine te_ 9 (some 129) hHeld ?_ ?_ ?_ ?_ ?_; rotate_left
         ·rintro w' ⟨s0, s1, s2, s3, s4, s5, s6, s7⟩; go_simp
          with_reducible rfl
         rotate_left
         ·simp only [nm_]; rfl
         refine te_ 11 (some 131) hHeld ?_ ?_ ?_ ?_ ?_; rotate_left
         ·rintro w' ⟨s0, s1, s2, s3, s4, s5, s6, s7⟩; go_simp
          with_reducible rfl
         rotate_left
         ·simp only [nm_]; rfl
         refine pe_ 14 (some 134) ?_ ?_ ?_ ?_ ?_; rotate_left
         ·intro w'; go_simp
          with_reducible rfl
         rotate_left
         ·simp only [nm_]; rfl
         refine pe_ 15 (some 135) ?_ ?_ ?_ ?_ ?_; rotate_left
         ·intro w'; go_simp
          with_reducible rfl
         rotate_left
         ·simp only [nm_]; rfl
         refine te_ 16 (some 136) hHeld ?_ ?_ ?_ ?_ ?_; rotate_left
         ·rintro w' ⟨s0, s1, s2, s3, s4, s5, s6, s7⟩; go_simp
          with_reducible rfl
         rotate_left
         ·simp only [nm_]; rfl
         refine ou_ (i := 17) (N := some 12) rfl rfl (by kernel_rfl) (by decide) (fun K hK => ?_)
         refine value_ (w1 := ?_) (v := ?_) (by rfl) rfl ?_ ?_
         rotate_left 2
         ·go_simp; constructor
          ·rfl
          ·rfl
         refine hK.out _ _ ⟨(zaa (HX1.out.alloc _).drew.b.bk 3), ((sp_at (HX1.out.alloc _).drew.b.sp HEL2.out 0).1 (.int .i64 (i : Int)) (by unfold spotF; rw [HRR.out, HOO.out]; rfl)), ((sp_at (HX1.out.alloc _).drew.b.sp HEL2.out 1).1 (.int .i64 ((y + 1 : Nat) : Int)) (by unfold spotF; rw [HRR.out, HOO.out]; rfl)), ((sp_at (HX1.out.alloc _).drew.b.sp HEL2.out 2).1 (.int .i64 (symAt row (y + 1))) (by unfold spotF; rw [HRR.out, HOO.out]; rfl)), ((sp_at (HX1.out.alloc _).drew.b.sp HEL2.out 3).1 (.int .u64 (rr : Int)) (by unfold spotF; rw [HRR.out, HOO.out]; rfl)), ((sp_at (HX1.out.alloc _).drew.b.sp HEL2.out 4).1 (.bool oo) (by unfold spotF; rw [HRR.out, HOO.out]; rfl)), (zaa (zah (zad HP1.out _)) 1), (zan (zaw (zac (Below.refl _ _) _)) r2)⟩ (fun hHeld => ?_)
         clear hK K; refine norm_ (a' := ?_) ?_ ?_; rotate_left
         ·show Act.put _ (some 12) _ = _; simp only [nm_]; rfl
         refine ou_ (i := 18) (N := none) rfl rfl (by kernel_rfl) (by decide) (fun K hK => ?_)
         refine skip_ (w1 := ?_) (by rfl) rfl ?_ ?_
         rotate_left
         ·go_simp; rfl
         refine hK.out _ _ ⟨(zaa (HX1.out.alloc _).drew.b.bk 3), ((sp_at (HX1.out.alloc _).drew.b.sp HEL2.out 0).1 (.int .i64 (i : Int)) (by unfold spotF; rw [HRR.out, HOO.out]; rfl)), ((sp_at (HX1.out.alloc _).drew.b.sp HEL2.out 1).1 (.int .i64 ((y + 1 : Nat) : Int)) (by unfold spotF; rw [HRR.out, HOO.out]; rfl)), ((sp_at (HX1.out.alloc _).drew.b.sp HEL2.out 2).1 (.int .i64 (symAt row (y + 1))) (by unfold spotF; rw [HRR.out, HOO.out]; rfl)), ((sp_at (HX1.out.alloc _).drew.b.sp HEL2.out 3).1 (.int .u64 (rr : Int)) (by unfold spotF; rw [HRR.out, HOO.out]; rfl)), ((sp_at (HX1.out.alloc _).drew.b.sp HEL2.out 4).1 (.bool oo) (by unfold spotF; rw [HRR.out, HOO.out]; rfl)), (zaa (zah (zad HP1.out _)) 1), (zan (zaw (zac (Below.refl _ _) _)) r2)⟩ (fun hHeld => ?_)
         clear hK K; refine pe_ 19 (some 13) ?_ ?_ ?_ ?_ ?_; rotate_left
         ·intro w'; go_simp
          with_reducible rfl
         rotate_left
         ·simp only [nm_]; rfl
         refine done_ (by kernel_rfl) ?_
         have HB2 := Lib.hid (zah (zau V1 (.cells #[.int .i64 (i : Int), .int .i64 ((y : Int) + 1), .int .i64 (symAt row (y + 1)), .int .u64 (rr : Int), .bool oo] 230))); have HX2 := Lib.hid ((HX1.out.alloc (.cells #[.int .i64 (i : Int), .int .i64 ((y : Int) + 1), .int .i64 (symAt row (y + 1)), .int .u64 (rr : Int), .bool oo] 230)).drew); have HP2 := Lib.hid (zah (zad HP1.out (.cells #[.int .i64 (i : Int), .int .i64 ((y : Int) + 1), .int .i64 (symAt row (y + 1)), .int .u64 (rr : Int), .bool oo] 230))); have hbh : gs < V1.heap.size := hgl1; have hbh2 : w.heap.size ≤ V1.heap.size := HX1.out.b.below.size; clear HX1 HP1 ny2 ny3 ny4 hnw1 yy0 yy1 r2; go_simp; generalize hbhe : V1.heap.size = bh at *; generalize (V1.alloc (.cells #[.int .i64 (i : Int), .int .i64 ((y : Int) + 1), .int .i64 (symAt row (y + 1)), .int .u64 (rr : Int), .bool oo] 230)).drew = V2 at *
         go_wp2_with fail
         have hx2 : ((zbc s.1 s.2 0 (ps.take i)) ++ (rowAt s.1 s.2 i row (y + 1)).set y ⟨i, y, sy, 0, true⟩)[n + y]? = some ⟨i, y, sy, 0, true⟩ := by
          rw [app_get (by rw [HSL.out, ← HN.out]), List.getElem?_set_self (by rw [rowAt_len]; omega)]
         have HX3 : Hid (Bx w (V2.drew.setCell ⟨gs, (n + y) * 5 + 3, none⟩ (.int .u64 ((fst s.1 nx : Nat) : Int))) w.heap.size #[.slice A l.length c, .slice B m.length d, .slice (some adp) ps.length e] (.slice (some ⟨g4, 0, none⟩) q c4) (s.2.take q) (.slice (some ⟨g5, 0, none⟩) q c5) (s.1.take q) (go + 1) #[.slice A l.length c, .slice B m.length d, .slice (some adp) ps.length e, (.slice (some ⟨gs, 0, none⟩) (n + (row.length + 1)) cs3), (.slice Aa5 na ca5), .slice (some ⟨go, 0, none⟩) m.length m.length] go (.slice (some ⟨gs, 0, none⟩) (n + (row.length + 1)) cs3) (.slice Aa5 na ca5) vo7 ((zbc s.1 s.2 0 (ps.take i)) ++ (rowAt s.1 s.2 i row (y + 1)).set y ⟨i, y, sy, (fst s.1 nx : Nat), true⟩) (atS 0 (ps.take i) ++ [n]) (zbo m.length (ps.take i ++ [⟨lhs, row⟩]))) := Lib.hid (by
          have h := HX2.out.drew.setSp rfl (n + y) _ _ hx2 3 (by decide) (.int .u64 ((fst s.1 nx : Nat) : Int)) (fun W b ok cs hm => m230_rest _ ((fst s.1 nx : Nat) : Int) hm)
          rw [app_set (by rw [HSL.out, ← HN.out]), List.set_set] at h
          exact h)
         have s3 := (sp_at HX2.out.b.sp hx2 3).1 (.int .u64 0) rfl; have s3f := (sp_at HX2.out.b.sp hx2 3).2; have hx3 : ((zbc s.1 s.2 0 (ps.take i)) ++ (rowAt s.1 s.2 i row (y + 1)).set y ⟨i, y, sy, (fst s.1 nx : Nat), true⟩)[n + y]? = some ⟨i, y, sy, (fst s.1 nx : Nat), true⟩ := by
          rw [app_get (by rw [HSL.out, ← HN.out]), List.getElem?_set_self (by rw [rowAt_len]; omega)]
         have s4 := (sp_at HX2.out.b.sp hx2 4).1 (.bool true) rfl; have s4f := (sp_at HX2.out.b.sp hx2 4).2; have HP3 := Lib.hid (zar (zah HP2.out) (p := ⟨gs, (n + y) * 5 + 3, none⟩) hne1 (.int .u64 ((fst s.1 nx : Nat) : Int))); have HB3 := Lib.hid (zar (zah HB2.out) (p := ⟨gs, (n + y) * 5 + 3, none⟩) (show bh ≠ gs by omega) (.int .u64 ((fst s.1 nx : Nat) : Int)))
         have HX3' : Hid (Bx w (V2.setCell ⟨gs, (n + y) * 5 + 3, none⟩ (.int .u64 ((fst s.1 nx : Nat) : Int))) w.heap.size #[.slice A l.length c, .slice B m.length d, .slice (some adp) ps.length e] (.slice (some ⟨g4, 0, none⟩) q c4) (s.2.take q) (.slice (some ⟨g5, 0, none⟩) q c5) (s.1.take q) (go + 1) #[.slice A l.length c, .slice B m.length d, .slice (some adp) ps.length e, (.slice (some ⟨gs, 0, none⟩) (n + (row.length + 1)) cs3), (.slice Aa5 na ca5), .slice (some ⟨go, 0, none⟩) m.length m.length] go (.slice (some ⟨gs, 0, none⟩) (n + (row.length + 1)) cs3) (.slice Aa5 na ca5) vo7 ((zbc s.1 s.2 0 (ps.take i)) ++ (rowAt s.1 s.2 i row (y + 1)).set y ⟨i, y, sy, (fst s.1 nx : Nat), true⟩) (atS 0 (ps.take i) ++ [n]) (zbo m.length (ps.take i ++ [⟨lhs, row⟩]))) := Lib.hid (by
          have h := HX2.out.setSp rfl (n + y) _ _ hx2 3 (by decide) (.int .u64 ((fst s.1 nx : Nat) : Int)) (fun W b ok cs hm => m230_rest _ ((fst s.1 nx : Nat) : Int) hm)
          rw [app_set (by rw [HSL.out, ← HN.out]), List.set_set] at h
          exact h)
         have HP3' := Lib.hid (zar HP2.out (p := ⟨gs, (n + y) * 5 + 3, none⟩) hne1 (.int .u64 ((fst s.1 nx : Nat) : Int))); have HB3' := Lib.hid (zar HB2.out (p := ⟨gs, (n + y) * 5 + 3, none⟩) (show bh ≠ gs by omega) (.int .u64 ((fst s.1 nx : Nat) : Int)))
         have HHX2 := Lib.hid hx2; have HHX3 := Lib.hid hx3; have nx0 : (0 : Int) ≤ (nx : Int) := Int.natCast_nonneg _; have nx1 : (nx : Int) < (q : Int) := by omega
         have HFL := Lib.hid (fst_lt HFT.out.lt nx); generalize hfx : fst s.1 nx = fx at *; have HFX := Lib.hid hfx; clear hfx; clear hx2 hx3; cases hv : van s.2 nx with
         | true =>
          have HV := Lib.hid hv; refine start_ (n := 20) (S := fun w' => w'.cell? ⟨g5, nx, none⟩ = some (.int .u64 (fx : Int)) ∧ w'.cell? ⟨g4, nx, none⟩ = some (.bool true) ∧ w'.cell? ⟨bh, 4, none⟩ = some (.bool oo)) (ds := [19]) #[false, false, false, false, false, false, false, false, false, false, false, false, false, false, false, false, false, false, false, false] (by kernel_rfl) rfl rfl ⟨((begins_cell HX2.out.drew.f hnx).trans (by rw [HFX.out])), ((none_cell HX2.out.drew.n hnx).trans (by rw [HV.out])), (zaa (zah HB2.out) 4)⟩ (fun hHeld => ?_)
          refine pe_ 0 (some 137) ?_ ?_ ?_ ?_ ?_; rotate_left
          ·intro w'; go_simp
           with_reducible rfl
          rotate_left
          ·simp only [nm_]; rfl
          refine pe_ 1 (some 138) ?_ ?_ ?_ ?_ ?_; rotate_left
          ·intro w'; go_simp
           with_reducible rfl
          rotate_left
          ·simp only [nm_]; rfl
          refine pe_ 2 (some 139) ?_ ?_ ?_ ?_ ?_; rotate_left
          ·intro w'; go_simp
           with_reducible rfl
          rotate_left
          ·simp only [nm_]; rfl
          refine pe_ 3 (some 140) ?_ ?_ ?_ ?_ ?_; rotate_left
          ·intro w'; go_simp
           with_reducible rfl
          rotate_left
          ·simp only [nm_]; rfl
          refine pe_ 4 (some 141) ?_ ?_ ?_ ?_ ?_; rotate_left
          ·intro w'; go_simp
           with_reducible rfl
          rotate_left
          ·simp only [nm_]; rfl
          refine pe_ 6 (some 143) ?_ ?_ ?_ ?_ ?_; rotate_left
          ·intro w'; go_simp
           with_reducible rfl
          rotate_left
          ·simp only [nm_]; rfl
          refine pe_ 7 (some 144) ?_ ?_ ?_ ?_ ?_; rotate_left
          ·intro w'; go_simp
           with_reducible rfl
          rotate_left
          ·simp only [nm_]; rfl
          refine pe_ 8 (some 145) ?_ ?_ ?_ ?_ ?_; rotate_left
          ·intro w'; go_simp
           with_reducible rfl
          rotate_left
          ·simp only [nm_]; rfl
          refine te_ 5 (some 142) hHeld ?_ ?_ ?_ ?_ ?_; rotate_left
          ·rintro w' ⟨s0, s1, s2⟩; go_simp
           with_reducible rfl
          rotate_left
          ·simp only [nm_]; rfl
          refine te_ 9 (some 146) hHeld ?_ ?_ ?_ ?_ ?_; rotate_left
          ·rintro w' ⟨s0, s1, s2⟩; go_simp
           with_reducible rfl
          rotate_left
          ·simp only [nm_]; rfl
          refine pe_ 10 (some 147) ?_ ?_ ?_ ?_ ?_; rotate_left
          ·intro w'; go_simp
           with_reducible rfl
          rotate_left
          ·simp only [nm_]; rfl
          refine pe_ 11 (some 148) ?_ ?_ ?_ ?_ ?_; rotate_left
          ·intro w'; go_simp
           with_reducible rfl
          rotate_left
          ·simp only [nm_]; rfl
          refine pe_ 14 (some 151) ?_ ?_ ?_ ?_ ?_; rotate_left
          ·intro w'; go_simp
           with_reducible rfl
          rotate_left
          ·simp only [nm_]; rfl
          refine pe_ 15 (some 152) ?_ ?_ ?_ ?_ ?_; rotate_left
          ·intro w'; go_simp
           with_reducible rfl
          rotate_left
          ·simp only [nm_]; rfl
          refine te_ 12 (some 149) hHeld ?_ ?_ ?_ ?_ ?_; rotate_left
          ·rintro w' ⟨s0, s1, s2⟩; go_simp
           with_reducible rfl
          rotate_left
          ·simp only [nm_]; rfl
          refine pe_ 13 (some 150) ?_ ?_ ?_ ?_ ?_; rotate_left
          ·intro w'; go_simp
           with_reducible rfl
          rotate_left
          ·simp only [nm_]; rfl
          refine ou_ (i := 16) (N := none) rfl rfl (by kernel_rfl) (by decide) (fun K hK => ?_)
          refine skip_ (w1 := ?_) (by rfl) rfl ?_ ?_
          rotate_left
          ·go_simp; rfl
          refine hK.out _ _ ⟨((begins_cell HX3.out.f hnx).trans (by rw [HFX.out])), ((none_cell HX3.out.n hnx).trans (by rw [HV.out])), (zaa HB3.out 4)⟩ (fun hHeld => ?_)
          clear hK K; refine pe_ 17 (some 153) ?_ ?_ ?_ ?_ ?_; rotate_left
          ·intro w'; go_simp
           with_reducible rfl
          rotate_left
          ·simp only [nm_]; rfl
          refine pe_ 18 (some 154) ?_ ?_ ?_ ?_ ?_; rotate_left
          ·intro w'; go_simp
           with_reducible rfl
          rotate_left
          ·simp only [nm_]; rfl
          refine lu_ (i := 19) (N := none) rfl rfl (by kernel_rfl) (by decide) (fun K hK => ?_)
          refine skip_ (w1 := ?_) (by rfl) rfl ?_ ?_
          rotate_left
          ·go_simp; rfl
          refine hK.out _ _ ?_; clear hK K; refine done_ (by kernel_rfl) ?_
          have HX4 : Hid (Bx w ((V2.setCell ⟨gs, (n + y) * 5 + 3, none⟩ (.int .u64 (fx : Int))).setCell ⟨gs, (n + y) * 5 + 4, none⟩ (.bool oo)).drew w.heap.size #[.slice A l.length c, .slice B m.length d, .slice (some adp) ps.length e] (.slice (some ⟨g4, 0, none⟩) q c4) (s.2.take q) (.slice (some ⟨g5, 0, none⟩) q c5) (s.1.take q) (go + 1) #[.slice A l.length c, .slice B m.length d, .slice (some adp) ps.length e, (.slice (some ⟨gs, 0, none⟩) (n + (row.length + 1)) cs3), (.slice Aa5 na ca5), .slice (some ⟨go, 0, none⟩) m.length m.length] go (.slice (some ⟨gs, 0, none⟩) (n + (row.length + 1)) cs3) (.slice Aa5 na ca5) vo7 ((zbc s.1 s.2 0 (ps.take i)) ++ (rowAt s.1 s.2 i row (y + 1)).set y ⟨i, y, sy, (fx : Int), oo⟩) (atS 0 (ps.take i) ++ [n]) (zbo m.length (ps.take i ++ [⟨lhs, row⟩]))) := Lib.hid (by
           have h := (HX3'.out.setSp rfl (n + y) _ _ HHX3.out 4 (by decide) (.bool oo) (fun W b ok cs hm => m230_open _ oo hm)).drew
           rw [app_set (by rw [HSL.out, ← HN.out]), List.set_set] at h
           exact h)
          have HP4 := Lib.hid (zah (zar HP3'.out (p := ⟨gs, (n + y) * 5 + 4, none⟩) hne1 (.bool oo))); have HB4 := Lib.hid (zah (zar HB3'.out (p := ⟨gs, (n + y) * 5 + 4, none⟩) (show bh ≠ gs by omega) (.bool oo)))
          clear HX3 HP3 HB3 HX3' HP3' HB3' HX2 HP2 HB2 s3 s3f s4 s4f HHX2 HHX3; go_simp; generalize ((V2.setCell ⟨gs, (n + y) * 5 + 3, none⟩ (.int .u64 (fx : Int))).setCell ⟨gs, (n + y) * 5 + 4, none⟩ (.bool oo)).drew = V4 at *; have cn := none_cell HX4.out.n hnx; rw [HV.out] at cn
          go_wp2_with fail
          clear cn; have hx4 : ((zbc s.1 s.2 0 (ps.take i)) ++ (rowAt s.1 s.2 i row (y + 1)).set y ⟨i, y, sy, (fx : Int), oo⟩)[n + y]? = some ⟨i, y, sy, (fx : Int), oo⟩ := by
           rw [app_get (by rw [HSL.out, ← HN.out]), List.getElem?_set_self (by rw [rowAt_len]; omega)]
          have hor : bits .or .u64 (fx : Int) (rr : Int) = ((fx ||| rr : Nat) : Int) := u64_or_nat _ _ HFL.out (by rw [← HRR.out]; exact lk_lt HFT.out.lt _)
          have HX5 : Hid (Bx w (V4.setCell ⟨gs, (n + y) * 5 + 3, none⟩ (.int .u64 ((fx ||| rr : Nat) : Int))) w.heap.size #[.slice A l.length c, .slice B m.length d, .slice (some adp) ps.length e] (.slice (some ⟨g4, 0, none⟩) q c4) (s.2.take q) (.slice (some ⟨g5, 0, none⟩) q c5) (s.1.take q) (go + 1) #[.slice A l.length c, .slice B m.length d, .slice (some adp) ps.length e, (.slice (some ⟨gs, 0, none⟩) (n + (row.length + 1)) cs3), (.slice Aa5 na ca5), .slice (some ⟨go, 0, none⟩) m.length m.length] go (.slice (some ⟨gs, 0, none⟩) (n + (row.length + 1)) cs3) (.slice Aa5 na ca5) vo7 ((zbc s.1 s.2 0 (ps.take i)) ++ (rowAt s.1 s.2 i row (y + 1)).set y ⟨i, y, sy, ((fx ||| rr : Nat) : Int), oo⟩) (atS 0 (ps.take i) ++ [n]) (zbo m.length (ps.take i ++ [⟨lhs, row⟩]))) := Lib.hid (by
           have h := HX4.out.setSp rfl (n + y) _ _ hx4 3 (by decide) (.int .u64 ((fx ||| rr : Nat) : Int)) (fun W b ok cs hm => m230_rest _ ((fx ||| rr : Nat) : Int) hm)
           rw [app_set (by rw [HSL.out, ← HN.out]), List.set_set] at h
           exact h)
          have HP5 := Lib.hid (zar HP4.out (p := ⟨gs, (n + y) * 5 + 3, none⟩) hne1 (.int .u64 ((fx ||| rr : Nat) : Int))); have s5 := (sp_at HX4.out.b.sp hx4 3).1 (.int .u64 (fx : Int)) rfl; have s5f := (sp_at HX4.out.b.sp hx4 3).2; have HHX4 := Lib.hid hx4; clear hx4; refine start_ (n := 10) (S := fun w' => w'.cell? ⟨gs, (n + y) * 5 + 3, none⟩ = some (.int .u64 (fx : Int)) ∧ w'.cell? ⟨bh, 3, none⟩ = some (.int .u64 (rr : Int))) (ds := [9]) #[false, false, false, false, false, false, false, false, false, false] (by kernel_rfl) rfl rfl ⟨((sp_at HX4.out.drew.b.sp HHX4.out 3).1 (.int .u64 (fx : Int)) rfl), (zaa (zah HB4.out) 3)⟩ (fun hHeld => ?_)
          refine pe_ 0 (some 159) ?_ ?_ ?_ ?_ ?_; rotate_left
          ·intro w'; go_simp
           with_reducible rfl
          rotate_left
          ·simp only [nm_]; rfl
          refine pe_ 1 (some 160) ?_ ?_ ?_ ?_ ?_; rotate_left
          ·intro w'; go_simp
           with_reducible rfl
          rotate_left
          ·simp only [nm_]; rfl
          refine pe_ 2 (some 161) ?_ ?_ ?_ ?_ ?_; rotate_left
          ·intro w'; go_simp
           with_reducible rfl
          rotate_left
          ·simp only [nm_]; rfl
          refine pe_ 4 (some 163) ?_ ?_ ?_ ?_ ?_; rotate_left
          ·intro w'; go_simp
           with_reducible rfl
          rotate_left
          ·simp only [nm_]; rfl
          refine te_ 3 (some 162) hHeld ?_ ?_ ?_ ?_ ?_; rotate_left
          ·rintro w' ⟨s0, s1⟩; go_simp
           with_reducible rfl
          rotate_left
          ·simp only [nm_]; rfl
          refine te_ 5 (some 164) hHeld ?_ ?_ ?_ ?_ ?_; rotate_left
          ·rintro w' ⟨s0, s1⟩; go_simp
           with_reducible rfl
          rotate_left
          ·simp only [nm_]; rfl
          refine pe_ 6 (some 165) ?_ ?_ ?_ ?_ ?_; rotate_left
          ·intro w'; go_simp
           with_reducible rfl
          rotate_left
          ·simp only [nm_]; rfl
          refine pe_ 7 (some 166) ?_ ?_ ?_ ?_ ?_; rotate_left
          ·intro w'; go_simp
           with_reducible rfl
          rotate_left
          ·simp only [nm_]; rfl
          refine pe_ 8 (some 167) ?_ ?_ ?_ ?_ ?_; rotate_left
          ·intro w'; go_simp
           with_reducible rfl
          rotate_left
          ·simp only [nm_]; rfl
          refine lu_ (i := 9) (N := none) rfl rfl (by kernel_rfl) (by decide) (fun K hK => ?_)
          refine skip_ (w1 := ?_) (by rfl) rfl ?_ ?_
          rotate_left
          ·go_simp; rfl
          refine hK.out _ _ ?_; clear hK K; refine done_ (by kernel_rfl) ?_
          go_simp
          go_wp2_with fail
          go_roundw
          case rel => (repeat apply Exists.intro); exact ⟨⟨(y : Int) - 1, _, rfl, hz3, hz4, Lib.hid (by
           have h := HX5.out.drew; rw [spot_t HSY.out HLK.out HV.out HFX.out, rowAt_set hyl] at h; rw [back_one]; exact h), Lib.hid (zah HP5.out)⟩, rfl⟩
          case measure => exact back_lt y
         | false =>
          have HV := Lib.hid hv; refine start_ (n := 20) (S := fun w' => w'.cell? ⟨g5, nx, none⟩ = some (.int .u64 (fx : Int)) ∧ w'.cell? ⟨g4, nx, none⟩ = some (.bool false) ∧ w'.cell? ⟨bh, 4, none⟩ = some (.bool oo)) (ds := [19]) #[false, false, false, false, false, false, false, false, false, false, false, false, false, false, false, false, false, false, false, false] (by kernel_rfl) rfl rfl ⟨((begins_cell HX2.out.drew.f hnx).trans (by rw [HFX.out])), ((none_cell HX2.out.drew.n hnx).trans (by rw [HV.out])), (zaa (zah HB2.out) 4)⟩ (fun hHeld => ?_)
          refine pe_ 0 (some 137) ?_ ?_ ?_ ?_ ?_; rotate_left
          ·intro w'; go_simp
           with_reducible rfl
          rotate_left
          ·simp only [nm_]; rfl
          refine pe_ 1 (some 138) ?_ ?_ ?_ ?_ ?_; rotate_left
          ·intro w'; go_simp
           with_reducible rfl
          rotate_left
          ·simp only [nm_]; rfl
          refine pe_ 2 (some 139) ?_ ?_ ?_ ?_ ?_; rotate_left
          ·intro w'; go_simp
           with_reducible rfl
          rotate_left
          ·simp only [nm_]; rfl
          refine pe_ 3 (some 140) ?_ ?_ ?_ ?_ ?_; rotate_left
          ·intro w'; go_simp
           with_reducible rfl
          rotate_left
          ·simp only [nm_]; rfl
          refine pe_ 4 (some 141) ?_ ?_ ?_ ?_ ?_; rotate_left
          ·intro w'; go_simp
           with_reducible rfl
          rotate_left
          ·simp only [nm_]; rfl
          refine pe_ 6 (some 143) ?_ ?_ ?_ ?_ ?_; rotate_left
          ·intro w'; go_simp
           with_reducible rfl
          rotate_left
          ·simp only [nm_]; rfl
          refine pe_ 7 (some 144) ?_ ?_ ?_ ?_ ?_; rotate_left
          ·intro w'; go_simp
           with_reducible rfl
          rotate_left
          ·simp only [nm_]; rfl
          refine pe_ 8 (some 145) ?_ ?_ ?_ ?_ ?_; rotate_left
          ·intro w'; go_simp
           with_reducible rfl
          rotate_left
          ·simp only [nm_]; rfl
          refine te_ 5 (some 142) hHeld ?_ ?_ ?_ ?_ ?_; rotate_left
          ·rintro w' ⟨s0, s1, s2⟩; go_simp
           with_reducible rfl
          rotate_left
          ·simp only [nm_]; rfl
          refine te_ 9 (some 146) hHeld ?_ ?_ ?_ ?_ ?_; rotate_left
          ·rintro w' ⟨s0, s1, s2⟩; go_simp
           with_reducible rfl
          rotate_left
          ·simp only [nm_]; rfl
          refine pe_ 10 (some 147) ?_ ?_ ?_ ?_ ?_; rotate_left
          ·intro w'; go_simp
           with_reducible rfl
          rotate_left
          ·simp only [nm_]; rfl
          refine pr_ 11 (some 148) ?_ ?_ ?_; rotate_left
          ·simp only [nm_]; rfl
          refine pr_ 12 (some 149) ?_ ?_ ?_; rotate_left
          ·simp only [nm_]; rfl
          refine pe_ 13 (some 150) ?_ ?_ ?_ ?_ ?_; rotate_left
          ·intro w'; go_simp
           with_reducible rfl
          rotate_left
          ·simp only [nm_]; rfl
          refine pe_ 14 (some 151) ?_ ?_ ?_ ?_ ?_; rotate_left
          ·intro w'; go_simp
           with_reducible rfl
          rotate_left
          ·simp only [nm_]; rfl
          refine pe_ 15 (some 152) ?_ ?_ ?_ ?_ ?_; rotate_left
          ·intro w'; go_simp
           with_reducible rfl
          rotate_left
          ·simp only [nm_]; rfl
          refine ou_ (i := 16) (N := none) rfl rfl (by kernel_rfl) (by decide) (fun K hK => ?_)
          refine skip_ (w1 := ?_) (by rfl) rfl ?_ ?_
          rotate_left
          ·go_simp; rfl
          refine hK.out _ _ ⟨((begins_cell HX3.out.f hnx).trans (by rw [HFX.out])), ((none_cell HX3.out.n hnx).trans (by rw [HV.out])), (zaa HB3.out 4)⟩ (fun hHeld => ?_)
          clear hK K; refine pe_ 17 (some 153) ?_ ?_ ?_ ?_ ?_; rotate_left
          ·intro w'; go_simp
           with_reducible rfl
          rotate_left
          ·simp only [nm_]; rfl
          refine pe_ 18 (some 154) ?_ ?_ ?_ ?_ ?_; rotate_left
          ·intro w'; go_simp
           with_reducible rfl
          rotate_left
          ·simp only [nm_]; rfl
          refine lu_ (i := 19) (N := none) rfl rfl (by kernel_rfl) (by decide) (fun K hK => ?_)
          refine skip_ (w1 := ?_) (by rfl) rfl ?_ ?_
          rotate_left
          ·go_simp; rfl
          refine hK.out _ _ ?_; clear hK K; refine done_ (by kernel_rfl) ?_
          have HX4 : Hid (Bx w ((V2.setCell ⟨gs, (n + y) * 5 + 3, none⟩ (.int .u64 (fx : Int))).setCell ⟨gs, (n + y) * 5 + 4, none⟩ (.bool false)).drew w.heap.size #[.slice A l.length c, .slice B m.length d, .slice (some adp) ps.length e] (.slice (some ⟨g4, 0, none⟩) q c4) (s.2.take q) (.slice (some ⟨g5, 0, none⟩) q c5) (s.1.take q) (go + 1) #[.slice A l.length c, .slice B m.length d, .slice (some adp) ps.length e, (.slice (some ⟨gs, 0, none⟩) (n + (row.length + 1)) cs3), (.slice Aa5 na ca5), .slice (some ⟨go, 0, none⟩) m.length m.length] go (.slice (some ⟨gs, 0, none⟩) (n + (row.length + 1)) cs3) (.slice Aa5 na ca5) vo7 ((zbc s.1 s.2 0 (ps.take i)) ++ (rowAt s.1 s.2 i row (y + 1)).set y ⟨i, y, sy, (fx : Int), false⟩) (atS 0 (ps.take i) ++ [n]) (zbo m.length (ps.take i ++ [⟨lhs, row⟩]))) := Lib.hid (by
           have h := (HX3'.out.setSp rfl (n + y) _ _ HHX3.out 4 (by decide) (.bool false) (fun W b ok cs hm => m230_open _ false hm)).drew
           rw [app_set (by rw [HSL.out, ← HN.out]), List.set_set] at h
           exact h)
          have HP4 := Lib.hid (zah (zar HP3'.out (p := ⟨gs, (n + y) * 5 + 4, none⟩) hne1 (.bool false))); have HB4 := Lib.hid (zah (zar HB3'.out (p := ⟨gs, (n + y) * 5 + 4, none⟩) (show bh ≠ gs by omega) (.bool false)))
          clear HX3 HP3 HB3 HX3' HP3' HB3' HX2 HP2 HB2 s3 s3f s4 s4f HHX2 HHX3; go_simp; generalize ((V2.setCell ⟨gs, (n + y) * 5 + 3, none⟩ (.int .u64 (fx : Int))).setCell ⟨gs, (n + y) * 5 + 4, none⟩ (.bool false)).drew = V4 at *; have cn := none_cell HX4.out.n hnx; rw [HV.out] at cn
          go_wp2_with fail
          go_roundw
          case rel => (repeat apply Exists.intro); exact ⟨⟨(y : Int) - 1, _, rfl, hz3, hz4, Lib.hid (by
           have h := HX4.out; rw [spot_f HSY.out HLK.out HV.out HFX.out, rowAt_set hyl] at h; rw [back_one]; exact h), HP4⟩, rfl⟩
          case measure => exact back_lt y
        ·have hyb : decide ((y : Int) + 1 < (row.length : Int)) = false := decide_eq_false (by omega)
         go_wp2_with fail
         go_roundw
         case rel => exact ⟨(y : Int) - 1, _, rfl, by omega, by omega, Lib.hid (by
          have h := HX1.out; have e : (⟨i, y, sy, 0, true⟩ : S230) = spotF s.1 s.2 i row y := by
           unfold spotF; rw [HSY.out, List.drop_eq_nil_of_le (by omega)]
           rfl
          rw [e, rowAt_set hyl] at h; rw [show ((y : Int) - 1 + 1).toNat = y by omega]
          exact h), HP1⟩
         case measure => simp only [intOf]; omega
       ·have hzb : decide (z ≥ 0) = false := decide_eq_false (by omega)
        have hze : z = -1 := by omega
        subst hze; clear hz0 hz1 hz2 hzb; have HX' : Hid (Bx w wr w.heap.size #[.slice A l.length c, .slice B m.length d, .slice (some adp) ps.length e] (.slice (some ⟨g4, 0, none⟩) q c4) (s.2.take q) (.slice (some ⟨g5, 0, none⟩) q c5) (s.1.take q) (go + 1) #[.slice A l.length c, .slice B m.length d, .slice (some adp) ps.length e, vs, (.slice Aa5 na ca5), .slice (some ⟨go, 0, none⟩) m.length m.length] go vs (.slice Aa5 na ca5) vo7 (zbc s.1 s.2 0 (ps.take (i + 1))) (atS 0 (ps.take (i + 1))) (zbo m.length (ps.take (i + 1)))) := Lib.hid (by
         rw [HTS.out, spotsS_snoc, atS_snoc, List.length_take, Nat.min_eq_left (Nat.le_of_lt hil), Nat.zero_add, Nat.zero_add, ← HN.out]; exact HX.out)
        have hi2 : i + 1 ≤ ps.length := hil; have hme : ps.length - (i + 1) < ps.length - i := by omega
        clear HX
        go_wp2_with fail
        go_roundw
        case rel => first | exact ⟨i + 1, _, _, _, by rw [Int.natCast_add]; rfl, hi2, HX'⟩ | ((repeat apply Exists.intro); exact ⟨⟨i + 1, _, _, _, by rw [Int.natCast_add]; rfl, hi2, HX'⟩, rfl⟩)
        case measure => exact hme
  ·have hib : decide ((i : Int) < (ps.length : Int)) = false := decide_eq_false (by omega)
   have hie : i = ps.length := by omega
   subst hie; rw [List.take_length] at HX
   go_wp2_with fail
   go_ret; exact ⟨_, rfl, ⟨go, vs, va, vo, HX.out.b⟩⟩
end Bld
end Go.Proofs.YtcijanmckhlpiaaDoor
namespace Go.Proofs.YtcijanmckhlpiaaDoor
open Go.RowKit Go.Proofs.YtcijanmckhlpiaaDoorW.PrintWords Go.Proofs.YtcijanmckhlpiaaDoor.PTableBuilds
namespace Bld
abbrev DU := DataW Unit
def keyB (l : List S166) : ByteArray := strOfNums (keyS l)
def ixB (k : ByteArray) : List ByteArray → Option Nat
 | [] => none
 | x :: r => if x = k then some 0 else (ixB k r).map (· + 1)
theorem ixB_snoc {k x : ByteArray} : ∀ {l : List ByteArray}, ixB x l = none → ixB k (l ++ [x]) = if x = k then some l.length else ixB k l
 | [], _ => by
  rw [List.nil_append]; show (if x = k then some 0 else (ixB k []).map (· + 1)) = _
  split <;> rfl
 | y :: r, h => by
  have hy : y ≠ x := by
   rintro rfl; unfold ixB at h; rw [if_pos rfl] at h; cases h
  have hr : ixB x r = none := by
   unfold ixB at h; rw [if_neg hy] at h; cases hx : ixB x r with
   | none => rfl
   | some j => rw [hx] at h; cases h
  have ih := ixB_snoc (k := k) hr; rw [List.cons_append]; unfold ixB; rw [ih]; by_cases h1 : y = k
  ·rw [if_pos h1, if_pos h1, if_neg (fun e => hy (h1.trans e.symm))]
  ·rw [if_neg h1, if_neg h1]; by_cases h2 : x = k
   ·rw [if_pos h2, if_pos h2]; rfl
   ·rw [if_neg h2, if_neg h2]
abbrev SK := List (List Nat) × List ByteArray
def goY (T : Nat) (sp : List S230) (of_ : List (List Nat)) (kf : Nat) : List (List S166) → List Int → SK → Option (Option (List Int × SK))
 | [], row, st => some (some (row, st))
 | ml :: rest, row, st => match ml with
  | [] => goY T sp of_ kf rest (row ++ [-1]) st
  | m :: ms => match ixB (keyB (m :: ms)) st.2 with
   | some n => goY T sp of_ kf rest (row ++ [(n : Int)]) st
   | none => if st.1.length = 2048 then some none else match closeN T sp of_ kf (marksS (m :: ms) (List.replicate sp.length 0, [])) with
    | none => none
    | some r => goY T sp of_ kf rest (row ++ [(st.1.length : Int)]) (st.1 ++ [r], st.2 ++ [keyB (m :: ms)])
def goI (T M : Nat) (sp : List S230) (of_ : List (List Nat)) (kf : Nat) : Nat → Nat → SK → List (List Int) → Option (Option (List (List Nat) × List (List Int)))
 | 0, _, _, _ => none
 | k + 1, i, st, gs => match st.1[i]? with
  | none => some (some (st.1, gs))
  | some s => match goY T sp of_ kf (movedN (T + M) sp s s.length) [] st with
   | none => none
   | some none => some none
   | some (some (row, st')) => goI T M sp of_ kf k (i + 1) st' (gs ++ [row])
def startL : List S166 := [⟨0, 1⟩]
def setsN (T M : Nat) (sp : List S230) (of_ : List (List Nat)) (kf kl : Nat) : Option (Option (List (List Nat) × List (List Int))) :=
 match closeN T sp of_ kf (marksS startL (List.replicate sp.length 0, [])) with
 | none => none
 | some r => goI T M sp of_ kf kl 0 ([r], [keyB startL]) []
def kl (s : ByteArray) : Lit := .string s.data.toList
theorem kl_key (s : ByteArray) : WideAt.IsKeyLit (kl s) := trivial
theorem kl_inj {a b : ByteArray} (h : kl a = kl b) : a = b := by
 unfold kl at h; injection h with h; exact WideShapes.bytes_inj h
structure KM (D : DU) (keys : List ByteArray) : Prop where
 isMap : Maps.IsMap D
 no : ∀ s, ixB s keys = none → Maps.has D (kl s) = false
 yes : ∀ s i, ixB s keys = some i → Maps.has D (kl s) = true ∧ ∀ z, D.atKey (kl s) z = .lit (.int .i64 (i : Int))
theorem KM.start (x : ByteArray) : KM ((.map [] : DU).put (kl x) (.lit (.int .i64 0))) [x] := by
 have hm : Maps.IsMap (.map [] : DU) := ⟨_, rfl⟩; refine ⟨hm.put _ _, fun s hs => ?_, fun s i hs => ?_⟩
 ·replace hs : (if x = s then some 0 else (ixB s []).map (· + 1)) = none := hs
  split at hs
  ·cases hs
  ·rename_i hne
   rw [Maps.has_put_other (fun e => hne (kl_inj e).symm)]
   rfl
 ·replace hs : (if x = s then some 0 else (ixB s []).map (· + 1)) = some i := hs
  split at hs
  ·rename_i he
   cases hs; rw [← he]; exact ⟨Maps.has_put_same hm (kl_key _) _, fun z => Maps.atKey_put_same hm (kl_key _) _ z⟩
  ·cases hs
theorem KM.step {D : DU} {keys : List ByteArray} (h : KM D keys) {x : ByteArray} (hx : ixB x keys = none) : KM (D.put (kl x) (.lit (.int .i64 (keys.length : Int)))) (keys ++ [x]) := by
 refine ⟨h.isMap.put _ _, fun s hs => ?_, fun s i hs => ?_⟩
 ·rw [ixB_snoc hx] at hs
  split at hs
  ·cases hs
  ·rename_i hne
   rw [Maps.has_put_other (fun e => hne (kl_inj e).symm)]
   exact h.no s hs
 ·rw [ixB_snoc hx] at hs
  split at hs
  ·rename_i he
   cases hs; rw [← he]; exact ⟨Maps.has_put_same h.isMap (kl_key _) _, fun z => Maps.atKey_put_same h.isMap (kl_key _) _ z⟩
  ·rename_i hne
   obtain ⟨h1, h2⟩ := h.yes s i hs; rw [Maps.has_put_other (fun e => hne (kl_inj e).symm)]
   refine ⟨h1, fun z => ?_⟩
   rw [Maps.atKey_put_other (fun e => hne (kl_inj e).symm), h2]
end Bld
end Go.Proofs.YtcijanmckhlpiaaDoor
namespace Go.Proofs.YtcijanmckhlpiaaDoor
open Go.RowKit Go.Proofs.YtcijanmckhlpiaaDoorW.PrintWords Go.Proofs.YtcijanmckhlpiaaDoorW.PrintLast Go.Proofs.YtcijanmckhlpiaaDoorW.PrintMore Go.Proofs.YtcijanmckhlpiaaDoor.PTableBuilds
namespace Bld
abbrev kI : Kd Int := Kd.int .i64
abbrev kSets : Kd (List Nat) := Kd.slice 128 kU
abbrev kGo : Kd (List Int) := Kd.slice 3 kI
abbrev OM (W : World) (b n : Nat) (D : DU) : Prop := W.ownsMap Tryd.prog 9 (plainElem (H := Unit) Tryd.prog 3) b n D
theorem OM.blk {W : World} {b n : Nat} {D : DU} (h : OM W b n D) : ∃ es clock, W.heap[b]? = some (.map es clock) := by
 obtain ⟨es, clock, hh, _⟩ := h; exact ⟨es, clock, hh⟩
theorem OM.ne_cells {W : World} {b n : Nat} {D : DU} (h : OM W b n D) {k t : Nat} {cs : Array Value} (hk : W.heap[k]? = some (.cells cs t (0, 0))) : b ≠ k := by
 rintro rfl; obtain ⟨es, clock, hh⟩ := h.blk; rw [hk] at hh; cases hh
theorem OM.ne_own {α : Type} {d : Kd α} {e base : Nat} {ok : Nat → Prop} {v : Value} {xs : List α} {W : World} {b n : Nat} {D : DU} (h : OM W b n D) (hr : d.R e W base ok v xs) : some b ≠ v.ownBlock := fun he => by
 obtain ⟨cells, hc⟩ := Kd.R_typed hr b he.symm; exact h.ne_cells hc rfl
theorem OM.below {W W' : World} {B b n : Nat} {D : DU} (h : OM W b n D) (hb : Below B W W') (hn : b < B) : OM W' b n D := by
 obtain ⟨es, clock, hh, F, hs, hD⟩ := h; exact ⟨es, clock, (hb.block b hn).trans hh, F, hs, hD⟩
theorem OM.far {W : World} {b n : Nat} {D : DU} (h : OM W b n D) {p : Addr} (hp : b ≠ p.block) (u : Value) : OM (W.setCell p u) b n D := by
 obtain ⟨es, clock, hh, F, hs, hD⟩ := h; exact ⟨es, clock, (Below.heap_setCell W p u b hp).trans hh, F, hs, hD⟩
theorem R_mapped {α : Type} {d : Kd α} {e base : Nat} {ok : Nat → Prop} {v : Value} {xs : List α} {W W1 : World} {b n : Nat} {D : DU} (hr : d.R e W base ok v xs) (h : OM W b n D) (hg : W.grownBy W1 (some b)) : d.R e W1 base ok v xs :=
 Kd.R_mono (Kd.R_grown (Kd.R_bound hr) hg (fun k hk he => by
  cases he; obtain ⟨_, _, _, q, _, cells, hc⟩ := hk; exact h.ne_cells hc rfl)) (fun _ hk => hk.1)
theorem below_mapped {w0 W W1 : World} {b : Nat} (hb : Below w0.heap.size w0 W) (hg : W.grownBy W1 (some b)) (hbb : w0.heap.size ≤ b) : Below w0.heap.size w0 W1 :=
 pw_below_grown hb (some b) hb.size hg (fun k hk => by cases hk; exact hbb)
set_option maxRecDepth 100000 in
theorem look_no {keys : List ByteArray} {D : DU} {b n : Nat} {W : World} (h : OM W b n D) (hD : KM D keys) (s : ByteArray) (hs : s.size ≤ maxLen) (hx : ixB s keys = none) :
  ∃ c : Int, (Instr.lookup 103 (.map (some b)) (.string s) true).run Tryd.prog W = .ok (.tuple #[.int .i64 c, .bool false]) W := by
 have hkey := WideMaps.keyOf_string_mk Tryd.underlying9 hs; obtain ⟨v, ps, hrun, hv⟩ := h.look_ok (Maps.string_keyed Tryd.underlying9) Tryd.underlying103 (Tryd.zeroValue3 W) (plainElem_int Tryd.underlying3 (by decide)) hkey
 obtain ⟨c, rfl, hc, hwc⟩ := plainElem_int_inv Tryd.underlying3 hv; refine ⟨c, ?_⟩; rw [hrun, show Maps.has D (Lit.string s.data.toList) = false from hD.no s hx]
set_option maxRecDepth 100000 in
theorem look_yes {keys : List ByteArray} {D : DU} {b n : Nat} {W : World} (h : OM W b n D) (hD : KM D keys) (s : ByteArray) (hs : s.size ≤ maxLen) {i : Nat} (hx : ixB s keys = some i) :
  (Instr.lookup 103 (.map (some b)) (.string s) true).run Tryd.prog W = .ok (.tuple #[.int .i64 (i : Int), .bool true]) W := by
 have hkey := WideMaps.keyOf_string_mk Tryd.underlying9 hs; obtain ⟨v, ps, hrun, hv⟩ := h.look_ok (Maps.string_keyed Tryd.underlying9) Tryd.underlying103 (Tryd.zeroValue3 W) (plainElem_int Tryd.underlying3 (by decide)) hkey
 obtain ⟨c, rfl, hc, hwc⟩ := plainElem_int_inv Tryd.underlying3 hv; obtain ⟨h1, h2⟩ := hD.yes s i hx; have e := congrArg Prod.fst hc; simp only at e; have e2 := (h2 _).symm.trans e; injection e2 with e2; injection e2 with _ e2; subst e2; rw [hrun, show Maps.has D (Lit.string s.data.toList) = true from h1]
structure Sx (w1 W : World) (bm nm : Nat) (D : DU) (vs vg vr : Value) (st : SK) (gs : List (List Int)) : Prop where
 below : Below w1.heap.size w1 W
 map : OM W bm nm D
 km : KM D st.2
 mge : w1.heap.size ≤ bm
 len : st.2.length = st.1.length
 sets : kSets.R 169 W w1.heap.size tru vs st.1
 gos : kGo.R 95 W w1.heap.size (fun k => tru k ∧ some k ≠ vr.ownBlock) vg gs
section
variable {w1 W W1 : World} {bm nm : Nat} {D : DU} {vs vg vr : Value} {st : SK} {gs : List (List Int)}
theorem Sx.bel (h : Sx w1 W bm nm D vs vg vr st gs) (hb : Below W.heap.size W W1) : Sx w1 W1 bm nm D vs vg vr st gs :=
 ⟨zam h.below hb, h.map.below hb (by obtain ⟨es, c, hh⟩ := h.map.blk; exact (Array.getElem?_eq_some_iff.1 hh).1), h.km, h.mge, h.len, Kd.zbf h.sets hb, Kd.zbf h.gos hb⟩
theorem Sx.alloc (h : Sx w1 W bm nm D vs vg vr st gs) (o : Obj) : Sx w1 (W.alloc o) bm nm D vs vg vr st gs := h.bel (zac (Below.refl _ _) o)
theorem Sx.drewN (h : Sx w1 W bm nm D vs vg vr st gs) (n : Nat) : Sx w1 (W.drewN n) bm nm D vs vg vr st gs := h.bel (zab (Below.refl _ _) n)
theorem Sx.row (h : Sx w1 W bm nm D vs vg vr st gs) {v1 : Value} (hlt : ∀ k, v1.ownBlock = some k → W.heap.size ≤ k) : Sx w1 W bm nm D vs vg v1 st gs :=
 ⟨h.below, h.map, h.km, h.mge, h.len, h.sets, Kd.R_mono (Kd.R_bound h.gos) (fun k hk => ⟨trivial, fun e => by have := hlt k e.symm; have := hk.2.2.1; omega⟩)⟩
theorem Sx.rowSet (h : Sx w1 W bm nm D vs vg vr st gs) {row : List Int} {g n cap : Nat} (hv : vr = .slice (some ⟨g, 0, none⟩) n cap) (hr : kI.R 3 W w1.heap.size tru vr row) (j : Nat) (u : Value) : Sx w1 (W.setCell ⟨g, j, none⟩ u) bm nm D vs vg vr st gs := by
 subst hv; obtain ⟨cells, hc⟩ := Kd.R_typed hr g rfl; have hge := Kd.R_base hr g rfl; exact ⟨zaf h.below hge, h.map.far (p := ⟨g, j, none⟩) (h.map.ne_cells hc) u, h.km, h.mge, h.len, Kd.zbp h.sets hc (by decide) j u, Kd.R_far h.gos (p := ⟨g, j, none⟩) (fun k hk e => hk.2 (by rw [e]; rfl)) u⟩
theorem Sx.mapped (h : Sx w1 W bm nm D vs vg vr st gs) (hg : W.grownBy W1 (some bm)) : Below w1.heap.size w1 W1 ∧ kSets.R 169 W1 w1.heap.size tru vs st.1 ∧ kGo.R 95 W1 w1.heap.size (fun k => tru k ∧ some k ≠ vr.ownBlock) vg gs :=
 ⟨below_mapped h.below hg h.mge, R_mapped h.sets h.map hg, R_mapped h.gos h.map hg⟩
theorem Sx.appS (h : Sx w1 W bm nm D vs vg vr st gs) {v1 : Value} {ss : List (List Nat)} {k : ByteArray} {D1 : DU} {nm1 : Nat} (hm : OM W bm nm1 D1) (hk : KM D1 (st.2 ++ [k])) (hl : ss.length = st.1.length + 1) (hR : kSets.R 169 W1 w1.heap.size tru v1 ss) (hg : W.grownBy W1 vs.ownBlock) (hb : Below w1.heap.size w1 W1) : Sx w1 W1 bm nm1 D1 v1 vg vr (ss, st.2 ++ [k]) gs :=
 ⟨hb, hm.kept hg (hm.ne_own h.sets), hk, h.mge, by rw [List.length_append, h.len, hl]; rfl, hR, Kd.zbn h.gos h.sets (by decide) hg⟩
theorem Sx.appG (h : Sx w1 W bm nm D vs vg vr st gs) {v1 : Value} {gg : List (List Int)} (hR : kGo.R 95 W1 w1.heap.size tru v1 gg) (hg : W.grownBy W1 vg.ownBlock) (hb : Below w1.heap.size w1 W1) : Sx w1 W1 bm nm D vs v1 (.slice none 0 0) st gg :=
 ⟨hb, h.map.kept hg (h.map.ne_own h.gos), h.km, h.mge, h.len, Kd.zbn h.sets h.gos (by decide) hg, Kd.R_apart_nil hR⟩
end
end Bld
end Go.Proofs.YtcijanmckhlpiaaDoor
