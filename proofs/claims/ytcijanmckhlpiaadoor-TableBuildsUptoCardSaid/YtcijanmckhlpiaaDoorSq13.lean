-- Texts of this seat, cut to what is used and merged (by shake.py).
import Derived.Test.YtcijanmckhlpiaaDoorSq4
import Derived.Test.YtcijanmckhlpiaaDoorSq6
import Derived.Test.YtcijanmckhlpiaaDoorSq12
set_option linter.unusedVariables false
set_option linter.unusedSimpArgs false
namespace Go.Proofs.YtcijanmckhlpiaaDoor
open Go.RowKit Go.Proofs.YtcijanmckhlpiaaDoorW.PrintWords Go.Proofs.YtcijanmckhlpiaaDoorW.PrintLast Go.Proofs.YtcijanmckhlpiaaDoorW.PrintMore Go.Proofs.YtcijanmckhlpiaaDoor.PTableBuilds
namespace Bld
theorem info90 : (Tryd.prog.info? 90).map (fun i => (i.zero, i.size, i.bytes)) = some (some (.slice none 0 0), 1, 24) := by kernel_rfl
theorem goB_step (T : Nat) (ps : List S77) (s : List S178) (ss : List (List S178)) (gs : List (List Int)) (i : Nat) (acc : TRows) (g : List Int) (hg : gs[i]? = some g) : goB T ps (s :: ss) gs i acc = match (rowS T ps s g).2 with
  | some c => .inr (130, (i : Int), (c : Int))
  | none => goB T ps ss gs (i + 1) (acc.1 ++ [(rowS T ps s g).1], acc.2 ++ [g.drop T]) := by
 have e : gs.getD i [] = g := by rw [List.getD_eq_getElem?_getD, hg]; rfl
 show (match (rowS T ps s (gs.getD i [])).2 with
  | some c => (.inr (130, (i : Int), (c : Int)) : BR)
  | none => goB T ps ss gs (i + 1) (acc.1 ++ [(rowS T ps s (gs.getD i [])).1], acc.2 ++ [(gs.getD i []).drop T])) = _
 rw [e]
theorem Rows.cut {α : Type} {k : Kd α} {t : Nat} {w : World} {base : Nat} {vs : List Value} {xs : List (List α)} (h : Rows k t w base vs xs) {b : Nat} (hb : w.heap.size ≤ b) {v : Value} (hv : ∀ q, v.ownBlock = some q → b ≤ q) : ∀ (j : Nat) (u : Value) (q : Nat), vs[j]? = some u → u.ownBlock = some q → v.ownBlock ≠ some q := fun j u q hu hq he => by
 have h1 := h.lt hu hq; have h2 := hv q he; omega
set_option maxRecDepth 100000 in
set_option maxHeartbeats 4000000 in
theorem build_any (A : Option Addr) (c : Nat) (l : List S112) (B : Option Addr) (d : Nat) (m : List S115) (C : Option Addr) (e : Nat) (ps : List S77) (w : World)
  (hg : GR w A c l B d m C e ps) (hf : Fair l.length m.length ps) (kr : Nat) (hri : items_right.f kr l m ps = some true) (k : Nat) (s : FV) (hk : solveN l.length ps k (initF l.length, noV) = some s) (hfit : Fit s) (hT : Tab64 w)
  (hfb : FitB l.length m.length (zbc s.1 s.2 0 ps) (zbo m.length ps)) (hnx : ∀ i, i + 1 = (zbc s.1 s.2 0 ps).length → (rdSp (zbc s.1 s.2 0 ps) i).f2 < 0) (hp0 : 0 < ps.length) (kf kg : Nat) (res : Option (List (List Nat) × List (List Int))) (hres : setsN l.length m.length (zbc s.1 s.2 0 ps) (zbo m.length ps) kf kg = some res)
  (hok : ∀ ss gs, res = some (ss, gs) → SetsOk l.length m.length ps (zbc s.1 s.2 0 ps) ss gs) (het : Dec.ErrType w) :
  Calls Tryd.prog 20 #[.agg #[.slice A l.length c, .slice B m.length d, .slice C ps.length e]] w (RetBuild w (buildS l.length ps (zbc s.1 s.2 0 ps) res)) := by
 have h64 := hf.t64; have t1 := hf.t1; have hm128 := hf.m128; have HPL := Lib.hid (fun (p : S77) (hp : p ∈ ps) => Nat.le_of_lt (hf.row hp))
 have hb0 := zac (zac (Below.refl w.heap.size w) (.cells #[.slice A l.length c, .slice B m.length d, .slice C ps.length e] 51)) (.cells #[.slice none 0 0, .slice none 0 0] 25); have HB0 := Lib.hid hb0; have HG := Lib.hid (hg.below hb0); have HET := Lib.hid (het.below hb0); have HTB := Lib.hid (hT.below hb0); have HX := Lib.hid (zad (zau w (.cells #[.slice A l.length c, .slice B m.length d, .slice C ps.length e] 51)) (.cells #[.slice none 0 0, .slice none 0 0] 25)); have hrb := zau (w.alloc (.cells #[.slice A l.length c, .slice B m.length d, .slice C ps.length e] 51)) (.cells #[.slice none 0 0, .slice none 0 0] 25); rw [szA] at hrb; have HRB := Lib.hid hrb; have HCALL := Lib.hid (fun (w2 : World) (h1 : GR w2 A c l B d m C e ps) (h2 : Tab64 w2) => sets_any A c l B d m C e ps w2 h1 hf kr hri k s hk hfit h2 hfb hnx hp0 kf kg res hres)
 have hrbs : w.heap.size ≤ w.heap.size + 1 := Nat.le_succ _; generalize hsp : zbc s.1 s.2 0 ps = sp at *; have HOK := Lib.hid hok; clear hb0 hg het hT hrb hf hri hk hfit hfb hnx hres hsp hok
 go_enter Tryd.func20, Tryd.ntmps20
 go_wp2_with ((with_reducible refine gate_ (.load 51 (.tmp 1)) rfl ?_); refine Hid.out ?_)
 refine Lib.hid ?_; generalize (w.alloc (.cells #[.slice A l.length c, .slice B m.length d, .slice C ps.length e] 51)).alloc (.cells #[.slice none 0 0, .slice none 0 0] 25) = w2 at *; generalize hrbe : w.heap.size + 1 = rb at *; generalize hgbe : w.heap.size = gb at *; have x0 := zaa HX.out 0; have x1 := zaa HX.out 1; have x2 := zaa HX.out 2; simp at x0 x1 x2; rcases res with _ | ⟨ss, gs⟩
 ·go_wp2_with (go_at_call 40; refine (HCALL.out w2 HG.out HTB.out).mono ?_; rintro e1 w3 ⟨hb3, rfl⟩; refine Hid.out ?_)
  refine Lib.hid ?_; have HB3 := Lib.hid hb3; have HR3 := Lib.hid (zak HRB.out hb3); have r0 := zaa HR3.out 0; have r0f := zae HR3.out 0; have r1 := zaa HR3.out 1; have r1f := zae HR3.out 1; simp at r0 r1; clear hb3
  go_wp2_with fail
  refine bodyPost_ret (results_cttt rfl _ _ rb 25 #[.slice none 0 0, .slice none 0 0] (0, 0) _ rfl (zat (cs' := #[.slice none 0 0, .slice none 0 0]) (zat (cs' := #[.slice none 0 0, .slice none 0 0]) HR3.out 0 _ rfl) 1 _ rfl) Tryd.underlying25 rfl (by kernel_rfl)) rfl ?_
  refine ⟨?_, rfl⟩; have hbw : Below w.heap.size w w3 := zam (w := w) (by rw [hgbe]; exact HB0.out) HB3.out
  have hge : w.heap.size ≤ rb := by omega
  exact zaf (zaf hbw hge) hge
 ·have HSO := Lib.hid (HOK.out ss gs rfl)
  go_wp2_with (go_at_call 40; refine (HCALL.out w2 HG.out HTB.out).mono ?_; rintro e1 w3 ⟨hb3, As, ca, Bs, cb, rfl, hss, hgs⟩; refine Hid.out ?_)
  refine Lib.hid ?_; have HB3 := Lib.hid hb3; have HR3 := Lib.hid (zak HRB.out hb3); have HX3 := Lib.hid (zak HX.out hb3); have HG3 := Lib.hid (HG.out.below hb3); have HET3 := Lib.hid (HET.out.below hb3); generalize hsets : (ss.map fun s => zbl sp s s.length) = sets at *
  have hsl : sets.length = ss.length := by rw [← hsets, List.length_map]
  have HFIT : Hid (∀ q ∈ sets, FitI l.length ps q ∧ q.length ≤ 1099511627776) := Lib.hid (fun q hq => by
   rw [← hsets, List.mem_map] at hq; obtain ⟨s0, hs0, rfl⟩ := hq; exact HSO.out.fit s0 hs0)
  have HSS := Lib.hid hss; have HGS := Lib.hid hgs; have hmost := HSO.out.most; have hbs : buildS l.length ps sp (some (ss, gs)) = goB l.length ps sets gs 0 ([], []) := by
   show goB l.length ps (ss.map fun s => zbl sp s s.length) gs 0 ([], []) = _
   rw [hsets]
  have HBS := Lib.hid hbs; generalize buildS l.length ps sp (some (ss, gs)) = br at *; clear hb3 hss hgs hsets hbs x0 x1 x2 HX HG HET HRB
  go_wp2_with ((with_reducible refine gate_ (.alloc 25) rfl ?_); refine Hid.out ?_)
  refine Lib.hid ?_; have HT0 : Hid (Tx w3 (w3.alloc (.cells #[.slice none 0 0, .slice none 0 0] 25)) w3.heap.size (.slice none 0 0) (.slice none 0 0) [] [] [] [] [] []) := Lib.hid ⟨zac (Below.refl _ _) _, zau w3 _, Nat.le_refl _, Kd.R_nil _ _ _ _ _, Rows.empty, Kd.R_nil _ _ _ _ _, Rows.empty⟩
  go_wp2_with fail
  generalize w3.heap.size = tb at *
  go_loopw [27] (fun v w' => ∃ (i : Nat) (Av : Option Addr) (nv cv : Nat) (Bv : Option Addr) (mv dv : Nat) (hA hG : List HD) (rows : List (List S93)) (gos : List (List Int)), v = .int .i64 (i : Int) ∧ i ≤ ss.length ∧ rows.length = i ∧ gos.length = i ∧ Hid (goB l.length ps (sets.drop i) gs i (rows, gos) = br) ∧ Hid (Tx w3 w' tb (.slice Av nv cv) (.slice Bv mv dv) hA hG (hA.map hdr) (hG.map hdr) rows gos)) (fun v _ => ss.length - (intOf v).toNat)
  case atStart => exact ⟨0, none, 0, 0, none, 0, 0, [], [], [], [], rfl, Nat.zero_le _, rfl, rfl, by rw [List.drop_zero]; exact Lib.hid HBS.out.symm, HT0⟩
  case round =>
   clear HT0 HBS; obtain ⟨i, Av, nv, cv, Bv, mv, dv, hA, hG, rows, gos, rfl, hi, hrl, hgol, HGB, HT⟩ := hrel; by_cases hil : i < ss.length
   ·obtain ⟨st0, hst0⟩ : ∃ x, sets[i]? = some x := ⟨_, List.getElem?_eq_getElem (by omega)⟩
    obtain ⟨g0, hg0⟩ : ∃ x, gs[i]? = some x := ⟨_, List.getElem?_eq_getElem (by have := HSO.out.len; omega)⟩
    obtain ⟨ads, A5, c5, rfl, s1, -, hC5⟩ := at_Sl (Kd.zav HSS.out HT.out.below) hst0; obtain ⟨adg, A6, c6, rfl, g13, hc6, hC6⟩ := at_Sl HGS.out hg0; have g1 := zan HT.out.below g13; have HG13 := Lib.hid g13; have hfi := HFIT.out st0 (List.mem_of_getElem? hst0); have hgr := HSO.out.row g0 (List.mem_of_getElem? hg0); have x0 := zaa (zak HX3.out HT.out.below) 0; have x1 := zaa (zak HX3.out HT.out.below) 1; have x2 := zaa (zak HX3.out HT.out.below) 2; simp at x0 x1 x2; have hib : decide ((i : Int) < (ss.length : Int)) = true := decide_eq_true (by omega)
    have hi0 : (0 : Int) ≤ (i : Int) := Int.natCast_nonneg _; have hi1 : (i : Int) < (ss.length : Int) := by omega
    have hi1g : (i : Int) < (gs.length : Int) := by have := HSO.out.len; omega
    have hiw : IntKind.i64.wrap ((i : Int) + 1) = (i : Int) + 1 := IntWalk.i64_in _ (by omega)
    have hi2 : i + 1 ≤ ss.length := hil; have hme : ss.length - (i + 1) < ss.length - i := by omega
    have HROW := Lib.hid (row_any A c l B d m C e ps wr.drew (HG3.out.below HT.out.drew.below) h64 HPL.out i A5 c5 st0 (Kd.C_drew hC5) hfi.2 hfi.1 A6 c6 g0 (Kd.zav hC6 HT.out.drew.below) (by omega) (HET3.out.below HT.out.drew.below))
    have HC6 := Lib.hid hC6; have hgb := HGB.out; rw [drop_of_get hst0, goB_step _ _ _ _ _ _ _ _ hg0] at hgb; have HGB1 := Lib.hid hgb; generalize rowS l.length ps st0 g0 = rs at *; have HGR := Lib.hid hgr; have hgle : l.length ≤ g0.length := by omega
    have hg20 : g0.length ≤ 192 := by omega
    clear hfi hC5 hC6 hst0 hg0 hgb HGB hgr g13
    go_wp2_with fail
    refine start_ (n := 13) (S := fun w' => w'.cell? ⟨gb, 0, none⟩ = some (.slice A l.length c) ∧ w'.cell? ⟨gb, 1, none⟩ = some (.slice B m.length d) ∧ w'.cell? ⟨gb, 2, none⟩ = some (.slice C ps.length e) ∧ w'.cell? (adg.add i) = some (.slice A6 g0.length c6)) (ds := [7]) #[false, false, false, false, false, false, false, false, false, false, false, false, false] (by kernel_rfl) rfl rfl ⟨x0, x1, x2, g1⟩ (fun hHeld => ?_)
    refine pe_ 1 (some 34) ?_ ?_ ?_ ?_ ?_; rotate_left
    ·intro w'; go_simp
     with_reducible rfl
    rotate_left
    ·simp only [nm_]; rfl
    refine pe_ 2 (some 35) ?_ ?_ ?_ ?_ ?_; rotate_left
    ·intro w'; go_simp
     with_reducible rfl
    rotate_left
    ·simp only [nm_]; rfl
    refine pe_ 3 (some 36) ?_ ?_ ?_ ?_ ?_; rotate_left
    ·intro w'; go_simp
     with_reducible rfl
    rotate_left
    ·simp only [nm_]; rfl
    refine pe_ 4 (some 37) ?_ ?_ ?_ ?_ ?_; rotate_left
    ·intro w'; go_simp
     with_reducible rfl
    rotate_left
    ·simp only [nm_]; rfl
    refine pe_ 5 (some 38) ?_ ?_ ?_ ?_ ?_; rotate_left
    ·intro w'; go_simp
     with_reducible rfl
    rotate_left
    ·simp only [nm_]; rfl
    refine te_ 0 (some 33) hHeld ?_ ?_ ?_ ?_ ?_; rotate_left
    ·rintro w' ⟨s0, s1, s2, s3⟩; go_simp
     with_reducible rfl
    rotate_left
    ·simp only [nm_]; rfl
    refine te_ 6 (some 39) hHeld ?_ ?_ ?_ ?_ ?_; rotate_left
    ·rintro w' ⟨s0, s1, s2, s3⟩; go_simp
     with_reducible rfl
    rotate_left
    ·simp only [nm_]; rfl
    refine lu_ (i := 7) (N := some 40) rfl rfl (by kernel_rfl) (by decide) (fun K hK => ?_)
    refine goes_ Tryd.func41 (by kernel_rfl) rfl #[.agg #[.slice A l.length c, .slice B m.length d, .slice C ps.length e], .int .i64 (i : Int), .slice A5 st0.length c5, .slice A6 g0.length c6] (by rfl) rfl rfl (by simp only [List.map_toArray, List.map_cons, List.map_nil]; rfl) ?_
    with_reducible refine (HROW.out).mono ?_
    rintro e4 w4 ⟨hb4, og, oc, ev, rfl, hrow, hbad⟩; refine ⟨_, rfl, ?_⟩; have HB4 := Lib.hid hb4; have HROW4 := Lib.hid hrow; have HBAD := Lib.hid hbad; clear hb4 hrow hbad; refine hK.out _ _ ?_; clear hK K; refine norm_ (a' := ?_) ?_ ?_; rotate_left
    ·show Act.put _ (some 40) _ = _; simp only [nm_]; rfl
    refine pe_ 8 (some 32) ?_ ?_ ?_ ?_ ?_; rotate_left
    ·intro w'; go_simp
     with_reducible rfl
    rotate_left
    ·simp only [nm_]; rfl
    refine pe_ 9 (some 41) ?_ ?_ ?_ ?_ ?_; rotate_left
    ·intro w'; go_simp
     with_reducible rfl
    rotate_left
    ·simp only [nm_]; rfl
    refine pe_ 10 (some 42) ?_ ?_ ?_ ?_ ?_; rotate_left
    ·intro w'; go_simp
     with_reducible rfl
    rotate_left
    ·simp only [nm_]; rfl
    refine pe_ 11 (some 12) ?_ ?_ ?_ ?_ ?_; rotate_left
    ·intro w'; go_simp
     with_reducible rfl
    rotate_left
    ·simp only [nm_]; rfl
    refine pe_ 12 (some 13) ?_ ?_ ?_ ?_ ?_; rotate_left
    ·intro w'; go_simp
     with_reducible rfl
    rotate_left
    ·simp only [nm_]; rfl
    refine done_ (by kernel_rfl) ?_
    clear hHeld HROW; obtain ⟨row, bo⟩ := rs; have HT4 := Lib.hid (HT.out.drew.bel HB4.out); have HT4n := Lib.hid (HT4.out.newA (v := .slice (some ⟨og, 0, none⟩) l.length oc) HROW4.out HT.out.drew.below.size (HT.out.drew.ra.cut (Nat.le_refl _) (fun q hq => Kd.R_base HROW4.out q hq)))
    have g1' := zan HB4.out g1; have x0' := zan HB4.out x0; clear g1 x0 x1 x2 s1 HROW4 HT; cases bo with
    | none =>
     have hev : ev = .nilIface := HBAD.out; subst hev
     go_wp2_with (go_at_call 33; refine (ErrsC.as_nil (.iface 123 (.pointer (some ⟨w4.heap.size, 0, none⟩))) _).mono ?_; rintro e5 w5 ⟨rfl, rfl⟩; refine Hid.out ?_)
     refine Lib.hid ?_; have HT5 := Lib.hid (HT4n.out.alloc (.cells #[.pointer none] 122)); have g1 := zan (zac (Below.refl w4.heap.size w4) (.cells #[.pointer none] 122)) g1'; have x0 := zan (zac (Below.refl w4.heap.size w4) (.cells #[.pointer none] 122)) x0'; clear HT4 HT4n g1' x0' HB4 HBAD; generalize w4.heap.size = cbk at *; generalize w4.alloc (.cells #[.pointer none] 122) = W5 at *; have t0 := zaa HT5.out.tbk 0; simp at t0; have hbl := HT5.out.ra.len; simp at hbl; have hgll := HT5.out.rg.len; simp at hgll; have hbo : (hA.length + 1) * 24 ≤ 140737488355328 := by omega
     have hbo3 : (hG.length + 1) * 24 ≤ 140737488355328 := by omega
     go_wp2_with ((with_reducible refine zay (b := .append) (xs := #[.tmp 56, .tmp 58]) rfl ?_); refine Hid.out ?_)
     refine Lib.hid ?_
     at_builtin
     refine Kd.R_append kH (w0 := w3) (W := W5) w3.heap.size rfl (.tmp 56) (.tmp 58) 22 90 (.slice none 0 0) 24 rfl Tryd.underlying22 info90 rfl (by decide) (by decide) (.slice Av nv cv) hA (some ⟨og, 0, none⟩, l.length, oc) [.slice (some ⟨og, 0, none⟩) l.length oc] tru (fun _ => False) rfl rfl rfl (fun _ hk => hk.elim) (fun _ _ => trivial) HT5.out.A HT5.out.below HT5.out.below.size hbo ?_
     intro v9 ws ho9 hb9 hg9 hat9; obtain ⟨h9, hT9⟩ := HT5.out.appA ho9 hg9 hb9; have HT6 := Lib.hid hT9; obtain ⟨A9, c9, hv9, -, -⟩ := Kd.zbb ho9; generalize hn9 : (hA ++ [((some ⟨og, 0, none⟩, l.length, oc) : HD)]).length = n9 at hv9; subst hv9; have t9 := zaa h9 0; have t9f := zae h9 0; simp at t9; clear ho9 hb9 hg9 hat9 hT9 hn9 HT5 t0 g1 x0
     go_wp2_with fail
     clear t9 t9f h9; generalize ws.setCell ⟨tb, 0, none⟩ (.slice A9 n9 c9) = W6 at *; obtain ⟨i0, hi0', hi0s⟩ := Option.map_eq_some_iff.1 info3; simp only [Prod.mk.injEq] at hi0s; have hcut := cut_from (P := Tryd.prog) 95 3 .i64 Tryd.underlying95 hi0' 1 hi0s.2.1 A6 g0.length c6 (l.length : Int) (Int.natCast_nonneg _) (by omega)
     have hdr := Kd.C_drop (m := l.length) (c := c6) (Kd.zav HC6.out HT6.out.drew.below) (by omega) hc6
     rw [Int.toNat_natCast, ← List.length_drop] at hcut; rw [show l.length * kInt.sz = l.length * 1 from rfl] at hdr; generalize (if c6 = l.length then A6 else A6.map (·.add (l.length * 1))) = Xc at hcut hdr
     generalize hdn : (g0.drop l.length).length = dn at hcut hdr; have HDR := Lib.hid hdr; have hbo2 : (([] : List Int).length + dn) * 8 ≤ 140737488355328 := by rw [← hdn, List.length_drop]; simp; omega
     clear hdn; clear hdr hi0' hi0s; have g1 := zan HT6.out.below HG13.out; have x0 := zaa (zak HX3.out HT6.out.below) 0; simp at x0; refine start_ (n := 15) (S := fun w' => w'.cell? ⟨tb, 1, none⟩ = some (.slice Bv mv dv) ∧ w'.cell? (adg.add i) = some (.slice A6 g0.length c6) ∧ w'.cell? ⟨gb, 0, none⟩ = some (.slice A l.length c)) (ds := [12, 14]) #[false, false, false, false, false, false, false, false, false, false, false, false, false, false, false] (by kernel_rfl) rfl rfl ⟨(zaa HT6.out.drew.tbk 1), (zan (Below.refl _ _) g1), (zan (Below.refl _ _) x0)⟩ (fun hHeld => ?_)
     refine pe_ 0 (some 61) ?_ ?_ ?_ ?_ ?_; rotate_left
     ·intro w'; go_simp
      with_reducible rfl
     rotate_left
     ·simp only [nm_]; rfl
     refine pe_ 2 (some 63) ?_ ?_ ?_ ?_ ?_; rotate_left
     ·intro w'; go_simp
      with_reducible rfl
     rotate_left
     ·simp only [nm_]; rfl
     refine pe_ 3 (some 64) ?_ ?_ ?_ ?_ ?_; rotate_left
     ·intro w'; go_simp
      with_reducible rfl
     rotate_left
     ·simp only [nm_]; rfl
     refine pe_ 4 (some 65) ?_ ?_ ?_ ?_ ?_; rotate_left
     ·intro w'; go_simp
      with_reducible rfl
     rotate_left
     ·simp only [nm_]; rfl
     refine pe_ 6 (some 67) ?_ ?_ ?_ ?_ ?_; rotate_left
     ·intro w'; go_simp
      with_reducible rfl
     rotate_left
     ·simp only [nm_]; rfl
     refine te_ 1 (some 62) hHeld ?_ ?_ ?_ ?_ ?_; rotate_left
     ·rintro w' ⟨s0, s1, s2⟩; go_simp
      with_reducible rfl
     rotate_left
     ·simp only [nm_]; rfl
     refine te_ 5 (some 66) hHeld ?_ ?_ ?_ ?_ ?_; rotate_left
     ·rintro w' ⟨s0, s1, s2⟩; go_simp
      with_reducible rfl
     rotate_left
     ·simp only [nm_]; rfl
     refine te_ 7 (some 68) hHeld ?_ ?_ ?_ ?_ ?_; rotate_left
     ·rintro w' ⟨s0, s1, s2⟩; go_simp
      with_reducible rfl
     rotate_left
     ·simp only [nm_]; rfl
     refine pe_ 8 (some 69) ?_ ?_ ?_ ?_ ?_; rotate_left
     ·intro w'; go_simp
      with_reducible rfl
     rotate_left
     ·simp only [nm_]; rfl
     refine pe_ 9 (some 70) ?_ ?_ ?_ ?_ ?_; rotate_left
     ·intro w'; go_simp
      with_reducible rfl
     rotate_left
     ·simp only [nm_]; rfl
     refine ou_ (i := 10) (N := some 71) rfl rfl (by kernel_rfl) (by decide) (fun K hK => ?_)
     refine Kd.R_append_rows_step kInt (w0 := w3) (W := W6.drew) w3.heap.size (by rfl) (.const (.slice none 0 0)) (.tmp 70) 95 3 (.int .i64 0) 8 rfl Tryd.underlying95 info3 rfl (by decide) (by decide) (.slice none 0 0) [] (g0.drop l.length) Xc dn (c6 - l.length) tru (fun _ => False) rfl rfl (Kd.R_nil _ _ _ _ _) HDR.out (fun _ _ h => h) (fun _ h => h.elim) (fun _ _ => trivial) HT6.out.drew.below HT6.out.drew.below.size hbo2 ?_
     intro v7 w7 ho7 hb7 hg7 hat7; rw [List.nil_append] at ho7; have HB67 : Hid (Below W6.drew.heap.size W6.drew w7) := Lib.hid (pw_below_grown (Below.refl W6.drew.heap.size W6.drew) none (Nat.le_refl _) hg7 (fun k h => by cases h))
     have hfr7 : ∀ q, v7.ownBlock = some q → W6.drew.heap.size ≤ q := fun q hq => by
      rcases hat7 with h | ⟨b, h, hle⟩
      ·rw [h] at hq; cases hq
      ·rw [h] at hq; cases hq; exact hle
     have HT7 := Lib.hid ((HT6.out.drew.bel HB67.out).newG (Kd.R_mono ho7 (fun _ _ => trivial)) (Nat.le_refl _) (HT6.out.drew.rg.cut (Nat.le_refl _) hfr7))
     obtain ⟨A7, c7, hv7, -, -⟩ := Kd.zbb ho7; generalize hn7 : (g0.drop l.length).length = n7 at hv7; subst hv7; clear hn7 ho7 hb7 hg7 hat7 hfr7; refine hK.out _ _ ⟨(zaa HT7.out.tbk 1), (zan HB67.out g1), (zan HB67.out x0)⟩ (fun hHeld => ?_)
     clear hK K; refine norm_ (a' := ?_) ?_ ?_; rotate_left
     ·show Act.put _ (some 71) _ = _; simp only [nm_]; rfl
     refine ou_ (i := 11) (N := some 72) rfl rfl (by kernel_rfl) (by decide) (fun K hK => ?_)
     refine value_ (w1 := ?_) (v := ?_) (by rfl) rfl ?_ ?_
     rotate_left 2
     ·go_simp; constructor
      ·rfl
      ·rfl
     refine hK.out _ _ ⟨(zaa (HT7.out.alloc _).tbk 1), (zan (zac HB67.out _) g1), (zan (zac HB67.out _) x0)⟩ (fun hHeld => ?_)
     clear hK K; refine norm_ (a' := ?_) ?_ ?_; rotate_left
     ·show Act.put _ (some 72) _ = _; simp only [nm_]; rfl
     refine lu_ (i := 12) (N := some 73) rfl rfl (by kernel_rfl) (by decide) (fun K hK => ?_)
     refine Kd.R_append_step kH (w0 := w3) (W := w7) w3.heap.size (by rfl) (.tmp 62) (.tmp 72) 23 95 (.slice none 0 0) 24 rfl Tryd.underlying23 info95 rfl (by decide) (by decide) (.slice Bv mv dv) hG (A7, n7, c7) [.slice A7 n7 c7] tru (fun _ => False) rfl rfl rfl (fun _ hk => hk.elim) (fun _ _ => trivial) HT7.out.G HT7.out.below HT7.out.below.size hbo3 ?_
     intro v8 w8 ho8 hb8 hg8 hat8; obtain ⟨h8, hT8⟩ := HT7.out.appG ho8 hg8 hb8; have HT8 := Lib.hid hT8; obtain ⟨A8, c8, hv8, -, -⟩ := Kd.zbb ho8; generalize hn8 : (hG ++ [((A7, n7, c7) : HD)]).length = n8 at hv8; subst hv8; have t8 := zaa h8 1; have t8f := zae h8 1; simp at t8; clear hn8 ho8 hb8 hg8 hat8 hT8 h8; refine hK.out _ _ ?_; clear hK K; refine norm_ (a' := ?_) ?_ ?_; rotate_left
     ·show Act.put _ (some 73) _ = _; simp only [nm_]; rfl
     refine pe_ 13 (some 74) ?_ ?_ ?_ ?_ ?_; rotate_left
     ·intro w'; go_simp
      with_reducible rfl
     rotate_left
     ·simp only [nm_]; rfl
     refine lu_ (i := 14) (N := none) rfl rfl (by kernel_rfl) (by decide) (fun K hK => ?_)
     refine skip_ (w1 := ?_) (by rfl) rfl ?_ ?_
     rotate_left
     ·go_simp; rfl
     refine hK.out _ _ ?_; clear hK K; refine done_ (by kernel_rfl) ?_
     clear hHeld; have hm1 : hA.map hdr ++ [.slice (some ⟨og, 0, none⟩) l.length oc] = (hA ++ [((some ⟨og, 0, none⟩, l.length, oc) : HD)]).map hdr := by rw [List.map_append]; rfl
     have hm2 : hG.map hdr ++ [.slice A7 n7 c7] = (hG ++ [((A7, n7, c7) : HD)]).map hdr := by rw [List.map_append]; rfl
     have HT9 := HT8.out; rw [hm1, hm2] at HT9; have hrl2 : (rows ++ [row]).length = i + 1 := by rw [List.length_append, hrl]; rfl
     have hgol2 : (gos ++ [g0.drop l.length]).length = i + 1 := by rw [List.length_append, hgol]; rfl
     have HRL2 := Lib.hid hrl2; have HGOL2 := Lib.hid hgol2; have HT10 := Lib.hid HT9; clear hm1 hm2 HT9 hrl2 hgol2 hcut HT8 HT6 g1 x0 t8 t8f HT7 HDR
     go_wp2_with fail
     go_roundw
     case rel => first | exact ⟨i + 1, A9, n9, c9, A8, n8, c8, _, _, rows ++ [row], gos ++ [g0.drop l.length], by rw [Int.natCast_add]; rfl, hi2, HRL2.out, HGOL2.out, HGB1, HT10⟩ | ((repeat apply Exists.intro); exact ⟨⟨i + 1, A9, n9, c9, A8, n8, c8, _, _, rows ++ [row], gos ++ [g0.drop l.length], by rw [Int.natCast_add] <;> rfl, hi2, HRL2.out, HGOL2.out, HGB1, HT10⟩, rfl⟩)
     case measure => exact hme
    | some cc =>
     obtain ⟨eb, hge, rfl, he⟩ := HBAD.out; have HC := Lib.hid (zau w4 (.cells #[.pointer none] 122)); have HE5 := Lib.hid (zad he (.cells #[.pointer none] 122)); have hb5 := zac (Below.refl w4.heap.size w4) (.cells #[.pointer none] 122); have HR5 := Lib.hid (zak (zak HR3.out HT4.out.below) hb5); have HB5 := Lib.hid (zam HT4.out.below hb5); have HET5 := Lib.hid (HET3.out.below HB5.out); have hc3 : w3.heap.size ≤ w4.heap.size := HT4.out.below.size; have hge2 : gb ≤ w4.heap.size + 1 := by have := HB3.out.size; have := HB0.out.size; omega
     have hbr := HGB1.out; clear hge he hb5 HT4 HT4n g1' x0' HB4 HBAD; generalize hcbk : w4.heap.size = cbk at *; generalize hW5 : w4.alloc (.cells #[.pointer none] 122) = W5 at *; have h5s : cbk ≤ W5.heap.size := by rw [← hW5, World.size_alloc, hcbk]; omega
     go_wp2_with (go_at_call 33; refine (as_hitC eb cbk _ HET5.out HC.out).mono ?_; rintro e5 w5 ⟨rfl, hv7, hvk, hvb⟩; refine Hid.out ?_)
     refine Lib.hid ?_; have HB6 := Lib.hid (hvb HB5.out hc3 HB5.out.size); have HCV := Lib.hid hv7; have HEV := Lib.hid (hvk.blk HE5.out (blk_ne HE5.out HC.out (by decide)) (by simp))
     have HRV := Lib.hid (hvk.blk HR5.out (blk_ne HR5.out HC.out (by decide)) (by simp))
     have r0 := zaa HRV.out 0; have r0f := zae HRV.out 0; have r1 := zaa HRV.out 1; have r1f := zae HRV.out 1; simp at r0 r1; clear hv7 hvk hvb
     go_wp2_with fail
     refine start_ (n := 13) (S := fun w' => w'.cell? ⟨cbk, 0, none⟩ = some (.pointer (some ⟨eb, 0, none⟩)) ∧ w'.cell? ⟨eb, 0, none⟩ = some (.int .i64 (i : Int)) ∧ w'.cell? ⟨eb, 1, none⟩ = some (.int .i64 (cc : Int))) (ds := []) #[false, false, false, false, false, false, false, false, false, false, false, false, false] (by kernel_rfl) rfl rfl ⟨(zaa (zah HCV.out) 0), (zaa (zah HEV.out) 0), (zaa (zah HEV.out) 1)⟩ (fun hHeld => ?_)
     refine pe_ 0 (some 46) ?_ ?_ ?_ ?_ ?_; rotate_left
     ·intro w'; go_simp
      with_reducible rfl
     rotate_left
     ·simp only [nm_]; rfl
     refine te_ 1 (some 47) hHeld ?_ ?_ ?_ ?_ ?_; rotate_left
     ·rintro w' ⟨s0, s1, s2⟩; go_simp
      with_reducible rfl
     rotate_left
     ·simp only [nm_]; rfl
     refine pe_ 2 (some 48) ?_ ?_ ?_ ?_ ?_; rotate_left
     ·intro w'; go_simp
      with_reducible rfl
     rotate_left
     ·simp only [nm_]; rfl
     refine pe_ 3 (some 49) ?_ ?_ ?_ ?_ ?_; rotate_left
     ·intro w'; go_simp
      with_reducible rfl
     rotate_left
     ·simp only [nm_]; rfl
     refine te_ 4 (some 50) hHeld ?_ ?_ ?_ ?_ ?_; rotate_left
     ·rintro w' ⟨s0, s1, s2⟩; go_simp
      with_reducible rfl
     rotate_left
     ·simp only [nm_]; rfl
     refine te_ 5 (some 51) hHeld ?_ ?_ ?_ ?_ ?_; rotate_left
     ·rintro w' ⟨s0, s1, s2⟩; go_simp
      with_reducible rfl
     rotate_left
     ·simp only [nm_]; rfl
     refine pe_ 6 (some 52) ?_ ?_ ?_ ?_ ?_; rotate_left
     ·intro w'; go_simp
      with_reducible rfl
     rotate_left
     ·simp only [nm_]; rfl
     refine pe_ 7 (some 53) ?_ ?_ ?_ ?_ ?_; rotate_left
     ·intro w'; go_simp
      with_reducible rfl
     rotate_left
     ·simp only [nm_]; rfl
     refine te_ 8 (some 54) hHeld ?_ ?_ ?_ ?_ ?_; rotate_left
     ·rintro w' ⟨s0, s1, s2⟩; go_simp
      with_reducible rfl
     rotate_left
     ·simp only [nm_]; rfl
     refine ou_ (i := 9) (N := none) rfl rfl (by kernel_rfl) (by decide) (fun K hK => ?_)
     refine skip_ (w1 := ?_) (by rfl) rfl ?_ ?_
     rotate_left
     ·go_simp; rfl
     refine hK.out _ _ ⟨(zaa (zah <| zar (p := ⟨rb, 1, none⟩) (zar (p := ⟨rb, 0, none⟩) HCV.out (blk_ne HCV.out HRV.out (by decide)) _) (blk_ne HCV.out HRV.out (by decide)) _) 0), (zaa (zah <| zar (p := ⟨rb, 1, none⟩) (zar (p := ⟨rb, 0, none⟩) HEV.out (blk_ne HEV.out HRV.out (by decide)) _) (blk_ne HEV.out HRV.out (by decide)) _) 0), (zaa (zah <| zar (p := ⟨rb, 1, none⟩) (zar (p := ⟨rb, 0, none⟩) HEV.out (blk_ne HEV.out HRV.out (by decide)) _) (blk_ne HEV.out HRV.out (by decide)) _) 1)⟩ (fun hHeld => ?_)
     clear hK K; refine pe_ 10 (some 3) ?_ ?_ ?_ ?_ ?_; rotate_left
     ·intro w'; go_simp
      with_reducible rfl
     rotate_left
     ·simp only [nm_]; rfl
     refine pe_ 11 (some 4) ?_ ?_ ?_ ?_ ?_; rotate_left
     ·intro w'; go_simp
      with_reducible rfl
     rotate_left
     ·simp only [nm_]; rfl
     refine pe_ 12 (some 5) ?_ ?_ ?_ ?_ ?_; rotate_left
     ·intro w'; go_simp
      with_reducible rfl
     rotate_left
     ·simp only [nm_]; rfl
     refine done_ (by kernel_rfl) ?_
     go_wp2_with fail
     have h0 : Below w.heap.size w w2 := by rw [hgbe]; exact HB0.out
     have hbw : Below w.heap.size w w5 := zam (zam h0 HB3.out) HB6.out; have hgr : w.heap.size ≤ rb := by omega
     refine bodyPost_ret (results_cttt rfl _ _ rb 25 #[.slice none 0 0, .slice none 0 0] (0, 0) _ rfl (zah (zat (cs' := #[.slice none 0 0, .slice none 0 0]) (zat (cs' := #[.slice none 0 0, .slice none 0 0]) HRV.out 0 _ rfl) 1 _ rfl)) Tryd.underlying25 rfl (by kernel_rfl)) rfl ?_
     rw [← hbr]; exact ⟨zaw (zaf (zaf hbw hgr) hgr), rfl⟩
   ·have hib : decide ((i : Int) < (ss.length : Int)) = false := decide_eq_false (by omega)
    have t0 := zaa HT.out.tbk 0; have t1 := zaa HT.out.tbk 1; have HRE := Lib.hid (zak HR3.out HT.out.below); have r0 := zaa HRE.out 0; have r0f := zae HRE.out 0; have r1 := zaa HRE.out 1; have r1f := zae HRE.out 1; simp at t0 t1 r0 r1
    go_wp2_with fail
    have hdz : sets.drop i = [] := List.drop_eq_nil_of_le (by omega)
    have hbr : br = .inl (rows, gos) := by rw [← HGB.out, hdz]; rfl
    refine bodyPost_ret (results_cttt rfl _ _ rb 25 #[.slice Av nv cv, .slice Bv mv dv] (0, 0) _ rfl (zat (cs' := #[.slice Av nv cv, .slice Bv mv dv]) (zat (cs' := #[.slice Av nv cv, .slice none 0 0]) HRE.out 0 _ rfl) 1 _ rfl) Tryd.underlying25 rfl (by kernel_rfl)) rfl ?_
    have h0 : Below w.heap.size w w2 := by rw [hgbe]; exact HB0.out
    have hbw : Below w.heap.size w wr := zam (zam h0 HB3.out) HT.out.below; have hge : w.heap.size ≤ rb := by omega
    have hle : w.heap.size ≤ w3.heap.size := by have := HB3.out.size; have := HB0.out.size; omega
    have hbl := HT.out.ra.len; rw [List.length_map] at hbl; have hgll := HT.out.rg.len; rw [List.length_map] at hgll; obtain ⟨A', c', e1, -, -⟩ := Kd.zbb HT.out.A; obtain ⟨B', d', e2, -, -⟩ := Kd.zbb HT.out.G; injection e1 with _ e1 _; injection e2 with _ e2 _; rw [hbl] at e1; rw [hgll] at e2; subst e1; subst e2; rw [hbr]; have hp1 := zat (cs' := #[.slice Av rows.length cv, .slice none 0 0]) HRE.out 0 (.slice Av rows.length cv) rfl; refine ⟨zaf (zaf hbw hge) hge, Av, cv, Bv, dv, rfl, ⟨hA, hG, ?_, ?_, ?_, ?_⟩⟩
    ·exact Kd.R_lower (Kd.zbp (Kd.zbp HT.out.A HRE.out (by decide) _ _) hp1 (by decide) _ _) hle
    ·exact ((HT.out.ra.set HRE.out (by decide) _ _).set hp1 (by decide) _ _).lower hle
    ·exact Kd.R_lower (Kd.zbp (Kd.zbp HT.out.G HRE.out (by decide) _ _) hp1 (by decide) _ _) hle
    ·exact ((HT.out.rg.set HRE.out (by decide) _ _).set hp1 (by decide) _ _).lower hle
def refB (T M : Nat) (r : S110) : Bool := !(decide (r.f0 < 1)) && !(decide (r.f0 ≥ (T : Int) + M))
def prodB (T M i : Nat) (p : S77) : Bool := !(decide (0 < i) && (decide (p.f0 < 0) || decide (p.f0 ≥ (M : Int)))) && p.f1.all (refB T M)
def rowsB (T M : Nat) : Nat → List S77 → Bool
 | _, [] => true
 | i, p :: ps => prodB T M i p && rowsB T M (i + 1) ps
def zeroB (T : Nat) (ps : List S77) : Bool := ((zal ps 0).f0 == -1) && (decide ((zal ps 0).f1.length = 1) && ((zax (zal ps 0).f1 0).f0 == (T : Int)))
def rightB (T M : Nat) (ps : List S77) : Bool := decide (1 ≤ T ∧ T ≤ 64 ∧ M ≤ 128 ∧ ps.length ≠ 0) && (rowsB T M 0 ps && zeroB T ps)
theorem w64s {i : Nat} (h : i + 1 ≤ 9223372036854775807) : wrap64 ((i : Int) + 1) = ((i + 1 : Nat) : Int) := by unfold wrap64; omega
theorem rdT110_nat (row : List S110) (i : Nat) (h : i < row.length) : zax row (i : Int) = row[i] := by
 unfold zax; rw [Int.toNat_natCast, List.getD_eq_getElem?_getD, List.getElem?_eq_getElem h]; rfl
theorem rdT77_nat (row : List S77) (i : Nat) (h : i < row.length) : zal row (i : Int) = row[i] := by
 unfold zal; rw [Int.toNat_natCast, List.getD_eq_getElem?_getD, List.getElem?_eq_getElem h]; rfl
theorem right_l1 (l : List S112) (m : List S115) (ps x31 : List S77) (x32 x33 : Int) (hT : l.length ≤ 64) (hM : m.length ≤ 128) (row : List S110) (hrow : row.length ≤ 9223372036854775807) (NX : Bool) (hn : Ev (fun k => items_right.l0 k (l.length : Int) x31 x32 (wrap64 (x33 + 1)) l m ps) NX) :
  ∀ (d i : Nat), row.length - i = d → i ≤ row.length → Ev (fun k => items_right.l1 k (l.length : Int) x31 x32 x33 row (row.length : Int) (i : Int) l m ps) ((row.drop i).all (refB l.length m.length) && NX) := by
 intro d
 induction d with
 | zero =>
  intro i hd hi; rw [List.drop_eq_nil_of_le (by omega)]
  simp only [List.all_nil, Bool.true_and]; exact Ev.step (fun k => by simp only [items_right.l1]; rw [if_neg (by omega)]) hn
 | succ d ih =>
  intro i hd hi; have hlt : i < row.length := by omega
  have h := ih (i + 1) (by omega) (by omega)
  have hw : wrap64 ((l.length : Int) + (m.length : Int)) = (l.length : Int) + m.length := by unfold wrap64; omega
  rw [List.drop_eq_getElem_cons hlt]; simp only [List.all_cons, refB]; have hs : ∀ k, items_right.l1 (k + 1) (l.length : Int) x31 x32 x33 row (row.length : Int) (i : Int) l m ps = (if (row[i]).f0 < 1 then some false else if (row[i]).f0 ≥ (l.length : Int) + m.length then some false else items_right.l1 k (l.length : Int) x31 x32 x33 row (row.length : Int) ((i + 1 : Nat) : Int) l m ps) := by
   intro k; simp only [items_right.l1]; rw [if_pos (by omega), if_pos (by omega), if_pos (by omega), rdT110_nat row i hlt, w64s (by omega), hw]
  refine Ev.step hs ?_; by_cases h1 : (row[i]).f0 < 1
  ·simp only [if_pos h1, decide_eq_true h1, Bool.not_true, Bool.false_and]; exact Ev.now _
  ·by_cases h2 : (row[i]).f0 ≥ (l.length : Int) + m.length
   ·simp only [if_neg h1, if_pos h2, decide_eq_true h2, Bool.not_true, Bool.and_false, Bool.false_and]; exact Ev.now _
   ·simp only [if_neg h1, if_neg h2, decide_eq_false h1, decide_eq_false h2, Bool.not_false, Bool.true_and]; exact h
theorem right_l0 (l : List S112) (m : List S115) (ps : List S77) (hT : l.length ≤ 64) (hM : m.length ≤ 128) (hps : ps.length ≤ 9223372036854775806) (h0 : ps.length ≠ 0) (hrow : ∀ p ∈ ps, p.f1.length ≤ 9223372036854775807) :
  ∀ (d i : Nat), ps.length - i = d → i ≤ ps.length → Ev (fun k => items_right.l0 k (l.length : Int) ps (ps.length : Int) (i : Int) l m ps) (rowsB l.length m.length i (ps.drop i) && zeroB l.length ps) := by
 intro d
 induction d with
 | zero =>
  intro i hd hi; rw [List.drop_eq_nil_of_le (by omega)]
  simp only [rowsB, Bool.true_and]; refine Ev.step (f := fun _ => some (zeroB l.length ps)) (fun k => ?_) (Ev.now _)
  simp only [items_right.l0]; rw [if_neg (by omega), if_pos (by omega)]
  unfold zeroB; by_cases h1 : (zal ps 0).f0 = -1
  ·rw [if_pos h1, h1]; by_cases h2 : (zal ps 0).f1.length = 1
   ·rw [if_pos (by omega), if_pos (by omega), decide_eq_true h2]
    simp
   ·rw [if_neg (by omega), decide_eq_false h2]
    simp
  ·rw [if_neg h1]; have : ((zal ps 0).f0 == -1) = false := by simpa using h1
   rw [this]; simp
 | succ d ih =>
  intro i hd hi; have hlt : i < ps.length := by omega
  have h := ih (i + 1) (by omega) (by omega)
  rw [List.drop_eq_getElem_cons hlt]; simp only [rowsB, prodB]; have hl1 := right_l1 l m ps ps (ps.length : Int) (i : Int) hT hM (ps[i]).f1 (hrow _ (List.getElem_mem hlt)) _ (by rw [w64s (by omega)]; exact h) _ 0 rfl (Nat.zero_le _)
  rw [List.drop_zero] at hl1; refine Ev.step (f := fun k => items_right.j2 k (l.length : Int) ps (ps.length : Int) (i : Int) (decide (0 < i) && (decide ((ps[i]).f0 < 0) || decide ((ps[i]).f0 ≥ (m.length : Int)))) l m ps (ps[i]).f0 (ps[i]).f1) (fun k => ?_) ?_
  ·simp only [items_right.l0]; rw [if_pos (by omega), if_pos (by omega), if_pos (by omega), rdT77_nat ps i hlt]
   by_cases hi0 : 0 < i
   ·rw [if_pos (by omega), decide_eq_true hi0]
    by_cases hn : (ps[i]).f0 < 0
    ·rw [if_pos hn, decide_eq_true hn]; rfl
    ·rw [if_neg hn, decide_eq_false hn]; rfl
   ·rw [if_neg (by omega), decide_eq_false hi0]; rfl
  ·cases hc : (decide (0 < i) && (decide ((ps[i]).f0 < 0) || decide ((ps[i]).f0 ≥ (m.length : Int)))) with
   | true => exact Ev.step (f := fun _ => some false) (fun k => by simp only [items_right.j2]; rw [if_pos trivial]) (by simpa using Ev.now false)
   | false =>
    simp only [Bool.not_false, Bool.true_and, Bool.and_assoc]; refine Ev.step (fun k => ?_) hl1
    simp only [items_right.j2]; rw [if_neg (by decide)]
    rfl
theorem right_ev (l : List S112) (m : List S115) (ps : List S77) (hps : ps.length ≤ 9223372036854775806) (hrow : ∀ p ∈ ps, p.f1.length ≤ 9223372036854775807) : Ev (fun k => items_right.f k l m ps) (rightB l.length m.length ps) := by
 unfold rightB; refine Ev.congr (f := fun k => items_right.j0 k (l.length : Int) (!decide (1 ≤ l.length ∧ l.length ≤ 64 ∧ m.length ≤ 128 ∧ ps.length ≠ 0)) l m ps) (fun k => ?_) ?_
 ·unfold items_right.f; by_cases h1 : (l.length : Int) < 1
  ·rw [if_pos h1, decide_eq_false (by omega)]; rfl
  ·rw [if_neg h1]; by_cases h2 : (l.length : Int) > 64
   ·rw [if_pos h2, decide_eq_false (by omega)]; rfl
   ·rw [if_neg h2]; by_cases h3 : (m.length : Int) > 128
    ·rw [if_pos h3, decide_eq_false (by omega)]; rfl
    ·rw [if_neg h3]
     congr 1
     by_cases h4 : ps.length = 0
     ·rw [decide_eq_false (by omega), h4]; rfl
     ·rw [decide_eq_true (p := 1 ≤ l.length ∧ l.length ≤ 64 ∧ m.length ≤ 128 ∧ ps.length ≠ 0) ⟨by omega, by omega, by omega, h4⟩]; simp; exact fun e => h4 (by rw [e]; rfl)
 ·by_cases hc : 1 ≤ l.length ∧ l.length ≤ 64 ∧ m.length ≤ 128 ∧ ps.length ≠ 0
  ·rw [decide_eq_true hc]; obtain ⟨h1, h2, h3, h4⟩ := hc; refine Ev.step (fun k => ?_) (by
    have h := right_l0 l m ps h2 h3 hps h4 hrow _ 0 rfl (Nat.zero_le _); rw [List.drop_zero] at h
    simpa using h)
   simp only [items_right.j0]; rw [if_neg (by decide)]
  ·rw [decide_eq_false hc]; refine Ev.step (f := fun _ => some false) (fun k => ?_) (by simpa using Ev.now false)
   simp only [items_right.j0]; rw [if_pos (by decide)]
theorem rowsB_all {T M : Nat} : ∀ (ps : List S77) (i : Nat), rowsB T M i ps = true → ∀ p ∈ ps, p.f1.all (refB T M) = true
 | [], i, _, p, hp => by cases hp
 | q :: ps, i, h, p, hp => by
  simp only [rowsB, prodB, Bool.and_eq_true] at h; rcases List.mem_cons.1 hp with rfl | hp
  ·exact h.1.2
  ·exact rowsB_all ps (i + 1) h.2 p hp
theorem rowsB_lhs {T M : Nat} : ∀ (ps : List S77) (i : Nat), 0 < i → rowsB T M i ps = true → ∀ p ∈ ps, 0 ≤ p.f0 ∧ p.f0 < M
 | [], i, _, _, p, hp => by cases hp
 | q :: ps, i, hi, h, p, hp => by
  simp only [rowsB, prodB, Bool.and_eq_true] at h; rcases List.mem_cons.1 hp with rfl | hp
  ·have h1 := h.1.1; rw [decide_eq_true hi] at h1; simp at h1; exact h1
  ·exact rowsB_lhs ps (i + 1) (Nat.succ_pos _) h.2 p hp
theorem fair_of {T M : Nat} {ps : List S77} (h : rightB T M ps = true) (hd : dots ps ≤ 1048576) : Fair T M ps ∧ 0 < ps.length := by
 unfold rightB at h; simp only [Bool.and_eq_true, decide_eq_true_eq] at h; obtain ⟨⟨h1, h2, h3, h4⟩, h5, h6⟩ := h; refine ⟨⟨h1, h2, h3, hd, ?_, fun p hp r hr => ?_⟩, by omega⟩
 ·cases ps with
  | nil => exact absurd rfl h4
  | cons q qs =>
   intro p hp; rcases List.mem_cons.1 hp with rfl | hp
   ·unfold zeroB at h6; simp only [Bool.and_eq_true] at h6; have h7 : p.f0 = -1 := by
     have h8 : (p.f0 == -1) = true := h6.1
     simpa using h8
    omega
   ·simp only [rowsB, Bool.and_eq_true] at h5; have := rowsB_lhs qs 1 (by decide) h5.2 p hp
    omega
 ·have := List.all_eq_true.1 (rowsB_all ps 0 h5 p hp) r hr; unfold refB at this; simp at this; omega
noncomputable def bldR (T M : Nat) (ps : List S77) : BR := by
 classical
 exact if h : rightB T M ps = true ∧ dots ps ≤ 1048576 then
  buildS T ps (zbc (build_data (fair_of h.1 h.2).1 (fair_of h.1 h.2).2).choose_spec.choose.1 (build_data (fair_of h.1 h.2).1 (fair_of h.1 h.2).2).choose_spec.choose.2 0 ps) (build_data (fair_of h.1 h.2).1 (fair_of h.1 h.2).2).choose_spec.choose_spec.2.2.2.2.choose_spec.choose_spec.choose
 else .inr (43, -1, -1)
set_option maxRecDepth 100000 in
set_option maxHeartbeats 4000000 in
theorem sets_wrong (A : Option Addr) (c : Nat) (l : List S112) (B : Option Addr) (d : Nat) (m : List S115) (C : Option Addr) (e : Nat) (ps : List S77) (w : World)
  (hg : GR w A c l B d m C e ps) (kr : Nat) (hri : items_right.f kr l m ps = some false) :
  Calls Tryd.prog 40 #[.agg #[.slice A l.length c, .slice B m.length d, .slice C ps.length e]] w fun e w' => e = .returned (.tuple #[.slice none 0 0, .slice none 0 0, .int .i64 43]) ∧ Below w.heap.size w w' := by
 have hbA := zac (Below.refl w.heap.size w) (.cells #[.slice A l.length c, .slice B m.length d, .slice C ps.length e] 51); have HG1 := Lib.hid (hg.below hbA); have HBA := Lib.hid hbA; have HRI := Lib.hid hri; clear hg hbA hri
 go_enter Tryd.func40, Tryd.ntmps40
 go_wp2_with (go_at_call 63; refine (items_right.calls kr A c l B d m C e ps false _ HG1.out.hA HG1.out.cA HG1.out.hB HG1.out.cB HG1.out.hC HG1.out.cC HRI.out).mono ?_; rintro e1 w1 ⟨rfl, hb1⟩; refine Hid.out ?_)
 refine Lib.hid ?_; have HB1 := Lib.hid (zam HBA.out hb1); clear hb1 HBA HG1
 go_wp2_with fail
 go_ret3; exact ⟨rfl, HB1.out⟩
set_option maxRecDepth 100000 in
set_option maxHeartbeats 4000000 in
theorem build_wrong (A : Option Addr) (c : Nat) (l : List S112) (B : Option Addr) (d : Nat) (m : List S115) (C : Option Addr) (e : Nat) (ps : List S77) (w : World)
  (hg : GR w A c l B d m C e ps) (kr : Nat) (hri : items_right.f kr l m ps = some false) :
  Calls Tryd.prog 20 #[.agg #[.slice A l.length c, .slice B m.length d, .slice C ps.length e]] w (RetBuild w (.inr (43, -1, -1))) := by
 have hb0 := zac (zac (Below.refl w.heap.size w) (.cells #[.slice A l.length c, .slice B m.length d, .slice C ps.length e] 51)) (.cells #[.slice none 0 0, .slice none 0 0] 25); have HB0 := Lib.hid hb0; have HCALL := Lib.hid (sets_wrong A c l B d m C e ps _ (hg.below hb0) kr hri); have HX := Lib.hid (zad (zau w (.cells #[.slice A l.length c, .slice B m.length d, .slice C ps.length e] 51)) (.cells #[.slice none 0 0, .slice none 0 0] 25)); have hrb := zau (w.alloc (.cells #[.slice A l.length c, .slice B m.length d, .slice C ps.length e] 51)) (.cells #[.slice none 0 0, .slice none 0 0] 25); rw [szA] at hrb; have HRB := Lib.hid hrb; clear hb0 hg hrb hri
 go_enter Tryd.func20, Tryd.ntmps20
 go_wp2_with ((with_reducible refine gate_ (.load 51 (.tmp 1)) rfl ?_); refine Hid.out ?_)
 refine Lib.hid ?_; generalize (w.alloc (.cells #[.slice A l.length c, .slice B m.length d, .slice C ps.length e] 51)).alloc (.cells #[.slice none 0 0, .slice none 0 0] 25) = w2 at *; have hge : w.heap.size ≤ w.heap.size + 1 := Nat.le_succ _; generalize w.heap.size + 1 = rb at *; have x0 := zaa HX.out 0; have x1 := zaa HX.out 1; have x2 := zaa HX.out 2; simp at x0 x1 x2
 go_wp2_with (go_at_call 40; refine (HCALL.out).mono ?_; rintro e1 w3 ⟨rfl, hb3⟩; refine Hid.out ?_)
 refine Lib.hid ?_; have HB3 := Lib.hid (zam HB0.out hb3); have HR3 := Lib.hid (zak HRB.out hb3); have r0 := zaa HR3.out 0; have r0f := zae HR3.out 0; have r1 := zaa HR3.out 1; have r1f := zae HR3.out 1; simp at r0 r1; clear hb3 x0 x1 x2 HX HCALL HB0 HRB
 go_wp2_with fail
 refine bodyPost_ret (results_cttt rfl _ _ rb 25 #[.slice none 0 0, .slice none 0 0] (0, 0) _ rfl (zat (cs' := #[.slice none 0 0, .slice none 0 0]) (zat (cs' := #[.slice none 0 0, .slice none 0 0]) HR3.out 0 _ rfl) 1 _ rfl) Tryd.underlying25 rfl (by kernel_rfl)) rfl ?_
 exact ⟨zaf (zaf HB3.out hge) hge, rfl⟩
theorem build_all (A : Option Addr) (c : Nat) (l : List S112) (B : Option Addr) (d : Nat) (m : List S115) (C : Option Addr) (e : Nat) (ps : List S77) (w : World)
  (hg : GR w A c l B d m C e ps) (hd : dots ps ≤ 1048576) (hT : Tab64 w) (het : Dec.ErrType w) :
  Calls Tryd.prog 20 #[.agg #[.slice A l.length c, .slice B m.length d, .slice C ps.length e]] w (RetBuild w (bldR l.length m.length ps)) := by
 obtain ⟨kr, hkr⟩ := (right_ev l m ps (by have := dots_len ps; omega) (fun p hp => by have := dots_mem hp; omega)).rounds
 unfold bldR; by_cases hr : rightB l.length m.length ps = true
 ·rw [dif_pos ⟨hr, hd⟩]; rw [hr] at hkr; have hfp := fair_of hr hd; obtain ⟨h1, h2, h3, h4, h5⟩ := (build_data hfp.1 hfp.2).choose_spec.choose_spec; obtain ⟨h6, h7⟩ := h5.choose_spec.choose_spec.choose_spec; exact build_any A c l B d m C e ps w hg hfp.1 kr hkr _ _ h1 h2 hT h3 h4 hfp.2 _ _ _ h6 h7 het
 ·rw [dif_neg (fun h => hr h.1)]
  have hr' : rightB l.length m.length ps = false := by simpa using hr
  rw [hr'] at hkr; exact build_wrong A c l B d m C e ps w hg kr hkr
end Bld
end Go.Proofs.YtcijanmckhlpiaaDoor
namespace Go.Proofs.YtcijanmckhlpiaaDoor
open Go.RowKit Go.Proofs.YtcijanmckhlpiaaDoorW.PrintWords Go.Proofs.YtcijanmckhlpiaaDoorW.PrintLast Go.Proofs.YtcijanmckhlpiaaDoorW.PrintMore Go.Proofs.YtcijanmckhlpiaaDoor.PTableBuilds
namespace Rm
open Bld
abbrev kP : Kd (Int × HD) := Kd.pair (Kd.int .i64) kH
theorem kP_M (W : World) (base : Nat) (ok : Nat → Prop) (a : Int) (h : HD) : kP.M W base ok (a, h) [.int .i64 a, hdr h] := ⟨[.int .i64 a], [hdr h], rfl, rfl, rfl⟩
theorem R_none {α : Type} {d : Kd α} {e B b : Nat} {W : World} (h : W.heap[b]? = some (.cells #[] e (0, 0))) (hB : B ≤ b) : d.R e W B tru (.slice (some ⟨b, 0, none⟩) 0 0) [] :=
 ⟨fun _ _ => trivial, [], ⟨by simp, .inr ⟨b, 0, #[], rfl, hB, h, Nat.le_refl _, by decide, by simp, by simp⟩⟩, ⟨by simp, fun j q hj => by simp at hj⟩⟩
theorem E110 : k110.E = [] := rfl
structure Tw (w1 W : World) (tc : Array Value) (vT vS vP : Value) (l : List S112) (m : List S115) (hs : List (Int × HD)) (vs : List Value) (xs : List (List S110)) : Prop where
 below : Below w1.heap.size w1 W
 cbk : W.heap[w1.heap.size]? = some (.cells tc 51 (0, 0))
 T : k112.R 112 W w1.heap.size tru vT l
 S : k115.R 115 W w1.heap.size tru vS m
 P : kP.R 77 W w1.heap.size tru vP hs
 rows : Bld.Rows k110 110 W w1.heap.size vs xs
section
variable {w1 W W1 : World} {tc : Array Value} {vT vS vP v1 : Value} {l : List S112} {m : List S115} {hs : List (Int × HD)} {vs : List Value} {xs : List (List S110)}
theorem Tw.bel (h : Tw w1 W tc vT vS vP l m hs vs xs) (hb : Below W.heap.size W W1) : Tw w1 W1 tc vT vS vP l m hs vs xs := ⟨zam h.below hb, zak h.cbk hb, Kd.zbf h.T hb, Kd.zbf h.S hb, Kd.zbf h.P hb, h.rows.below hb⟩
theorem Tw.setC (h : Tw w1 W tc vT vS vP l m hs vs xs) (j : Nat) (u : Value) {tc' : Array Value} (e : tc.setIfInBounds j u = tc') : Tw w1 (W.setCell ⟨w1.heap.size, j, none⟩ u) tc' vT vS vP l m hs vs xs :=
 ⟨zaf h.below (Nat.le_refl _), zat h.cbk j u e, Kd.zbp h.T h.cbk (by decide) j u, Kd.zbp h.S h.cbk (by decide) j u, Kd.zbp h.P h.cbk (by decide) j u, h.rows.set h.cbk (by decide) j u⟩
theorem Tw.appT (h : Tw w1 W tc vT vS vP l m hs vs xs) {l1 : List S112} (hR : k112.R 112 W1 w1.heap.size tru v1 l1) (hg : W.grownBy W1 vT.ownBlock) (hb : Below w1.heap.size w1 W1) : Tw w1 W1 tc v1 vS vP l1 m hs vs xs :=
 ⟨hb, zas h.cbk hg (Kd.R_ne h.T h.cbk (by decide)), hR, Kd.zbn h.S h.T (by decide) hg, Kd.zbn h.P h.T (by decide) hg, h.rows.over h.T (by decide) hg⟩
theorem Tw.appS (h : Tw w1 W tc vT vS vP l m hs vs xs) {m1 : List S115} (hR : k115.R 115 W1 w1.heap.size tru v1 m1) (hg : W.grownBy W1 vS.ownBlock) (hb : Below w1.heap.size w1 W1) : Tw w1 W1 tc vT v1 vP l m1 hs vs xs :=
 ⟨hb, zas h.cbk hg (Kd.R_ne h.S h.cbk (by decide)), Kd.zbn h.T h.S (by decide) hg, hR, Kd.zbn h.P h.S (by decide) hg, h.rows.over h.S (by decide) hg⟩
theorem Tw.appP (h : Tw w1 W tc vT vS vP l m hs vs xs) {hs1 : List (Int × HD)} (hR : kP.R 77 W1 w1.heap.size tru v1 hs1) (hg : W.grownBy W1 vP.ownBlock) (hb : Below w1.heap.size w1 W1) : Tw w1 W1 tc vT vS v1 l m hs1 vs xs :=
 ⟨hb, zas h.cbk hg (Kd.R_ne h.P h.cbk (by decide)), Kd.zbn h.T h.P (by decide) hg, Kd.zbn h.S h.P (by decide) hg, hR, h.rows.over h.P (by decide) hg⟩
theorem Tw.newT (h : Tw w1 W tc vT vS vP l m hs vs xs) {l1 : List S112} {b : Nat} (hR : k112.R 112 W b tru v1 l1) (hb : w1.heap.size ≤ b) : Tw w1 W tc v1 vS vP l1 m hs vs xs := ⟨h.below, h.cbk, Kd.R_lower hR hb, h.S, h.P, h.rows⟩
theorem Tw.newS (h : Tw w1 W tc vT vS vP l m hs vs xs) {m1 : List S115} {b : Nat} (hR : k115.R 115 W b tru v1 m1) (hb : w1.heap.size ≤ b) : Tw w1 W tc vT v1 vP l m1 hs vs xs := ⟨h.below, h.cbk, h.T, Kd.R_lower hR hb, h.P, h.rows⟩
theorem Tw.newR (h : Tw w1 W tc vT vS vP l m hs vs xs) {b : Nat} {row : List S110} (hR : k110.R 110 W b tru v1 row) (hb : w1.heap.size ≤ b) (hn : ∀ (j : Nat) (u : Value) (q : Nat), vs[j]? = some u → u.ownBlock = some q → v1.ownBlock ≠ some q) : Tw w1 W tc vT vS vP l m hs (vs ++ [v1]) (xs ++ [row]) :=
 ⟨h.below, h.cbk, h.T, h.S, h.P, h.rows.snoc E110 (Kd.R_lower hR hb) hn⟩
end
structure Twin (w w' : World) (vT vS vP : Value) (l : List S112) (m : List S115) (ps : List S77) (hs : List (Int × HD)) : Prop where
 below : Below w.heap.size w w'
 T : k112.R 112 w' w.heap.size tru vT l
 S : k115.R 115 w' w.heap.size tru vS m
 P : kP.R 77 w' w.heap.size tru vP hs
 rows : Bld.Rows k110 110 w' w.heap.size (hs.map fun h => hdr h.2) (ps.map (·.f1))
 lhs : hs.map (·.1) = ps.map (·.f0)
set_option maxRecDepth 100000 in
set_option maxHeartbeats 8000000 in
theorem twin_any (A : Option Addr) (c : Nat) (l : List S112) (B : Option Addr) (d : Nat) (m : List S115) (C : Option Addr) (e : Nat) (ps : List S77) (w : World) (hg : GR w A c l B d m C e ps) (hl : l.length ≤ 1048576) (hm : m.length ≤ 1048576) (hd : dots ps ≤ 1048576) :
  Calls Tryd.prog 28 #[.agg #[.slice A l.length c, .slice B m.length d, .slice C ps.length e]] w fun e' w' => ∃ vT vS vP hs, e' = .returned (.agg #[vT, vS, vP]) ∧ Twin w w' vT vS vP l m ps hs := by
 have hlen := dots_len ps; have hbe := zac (zac (Below.refl w.heap.size w) (.cells #[.slice A l.length c, .slice B m.length d, .slice C ps.length e] 51)) (.cells #[.slice none 0 0, .slice none 0 0, .slice none 0 0] 51); have HB1 := Lib.hid hbe; have HG1 := Lib.hid (hg.below hbe); have HX1 := Lib.hid (zad (zau w (.cells #[.slice A l.length c, .slice B m.length d, .slice C ps.length e] 51)) (.cells #[.slice none 0 0, .slice none 0 0, .slice none 0 0] 51)); have hr := zau (w.alloc (.cells #[.slice A l.length c, .slice B m.length d, .slice C ps.length e] 51)) (.cells #[.slice none 0 0, .slice none 0 0, .slice none 0 0] 51); rw [szA] at hr; have HRB := Lib.hid hr; have hsz : ((w.alloc (.cells #[.slice A l.length c, .slice B m.length d, .slice C ps.length e] 51)).alloc (.cells #[.slice none 0 0, .slice none 0 0, .slice none 0 0] 51)).heap.size = w.heap.size + 1 + 1 := by rw [szA, szA]
 have hge : w.heap.size ≤ w.heap.size + 1 := Nat.le_succ _; obtain ⟨gb, hgb⟩ : ∃ gb, gb = w.heap.size := ⟨_, rfl⟩; have HDT := Lib.hid hd; clear hg hbe hr hd
 go_enter Tryd.func28, Tryd.ntmps28
 go_wp2_with ((with_reducible refine gate_ (.alloc 51) rfl ?_); refine Hid.out ?_)
 refine Lib.hid ?_
 go_wp2_with ((with_reducible refine gate_ (.buildSlice 47 0 #[]) rfl ?_); refine Hid.out ?_)
 refine Lib.hid ?_; generalize (w.alloc (.cells #[.slice A l.length c, .slice B m.length d, .slice C ps.length e] 51)).alloc (.cells #[.slice none 0 0, .slice none 0 0, .slice none 0 0] 51) = w1 at *; rw [← hsz]; have HT0 : Hid (Tw w1 (w1.alloc (.cells #[.slice none 0 0, .slice none 0 0, .slice none 0 0] 51)) #[.slice none 0 0, .slice none 0 0, .slice none 0 0] (.slice none 0 0) (.slice none 0 0) (.slice none 0 0) [] [] [] [] []) := Lib.hid ⟨zac (Below.refl _ _) _, zau w1 _, Kd.R_nil _ _ _ _ _, Kd.R_nil _ _ _ _ _, Kd.R_nil _ _ _ _ _, Rows.empty⟩; generalize w1.alloc (.cells #[.slice none 0 0, .slice none 0 0, .slice none 0 0] 51) = W2 at *; generalize hrbe : w.heap.size + 1 = rb at *; have hgl : w.heap.size < w1.heap.size := by omega
 have hrl : rb < w1.heap.size := by omega
 have hgwb : w.heap.size ≤ rb := by omega
 clear hsz hge hrbe hgb gb; generalize hgbe : w.heap.size = gb at *; have hW2 : w1.heap.size < W2.heap.size := zba HT0.out.cbk; have hgW : gb < W2.heap.size := by omega
 have x0 := zaa (zak HX1.out HT0.out.below) 0; have x1 := zaa (zak HX1.out HT0.out.below) 1; simp at x0 x1
 go_wp2_with ((with_reducible refine zay (b := .append) (xs := #[.tmp 6, .tmp 8]) rfl ?_); refine Hid.out ?_)
 refine Lib.hid ?_; have hbo1 : (([] : List S112).length + l.length) * 24 ≤ 140737488355328 := by simp; omega
 have HBa := zac (Below.refl W2.heap.size W2) (.cells #[] 112)
 at_builtin
 refine Kd.zbj k112 (w0 := W2) (W := W2.alloc (.cells #[] 112)) W2.heap.size rfl (.tmp 6) (.tmp 8) 47 112 (.agg #[(.string ⟨#[]⟩), (.bool false)]) 24 rfl Tryd.underlying47 info112 rfl (by decide) (by decide) _ [] l A l.length c tru (fun _ => False) rfl rfl (R_none (zau W2 _) (Nat.le_refl _)) (HG1.out.below (zam HT0.out.below HBa)).hA (fun x cs h => by obtain rfl := k112_open h; exact k112_mkM _ _ _ _) (fun _ h => h.elim) (fun _ _ => trivial) HBa HBa.size hbo1 ?_
 intro v3 w3 ho3 hb3 hg3 hat3; rw [List.nil_append] at ho3; have HT3 := Lib.hid ((HT0.out.bel hb3).newT ho3 HT0.out.below.size); obtain ⟨AT, cT, rfl, -, -⟩ := Kd.zbb ho3; clear HT0 HBa ho3 hb3 hg3 hat3 hbo1 x0 x1; have t0 := zaa HT3.out.cbk 0; have t0f := zae HT3.out.cbk 0; simp at t0; have HT4 : Hid (Tw w1 (w3.setCell ⟨w1.heap.size, 0, none⟩ (.slice AT l.length cT)) #[.slice AT l.length cT, .slice none 0 0, .slice none 0 0] (.slice AT l.length cT) (.slice none 0 0) (.slice none 0 0) l [] [] [] []) := Lib.hid (HT3.out.setC 0 (.slice AT l.length cT) rfl)
 go_wp2_with ((with_reducible refine gate_ (.buildSlice 48 0 #[]) rfl ?_); refine Hid.out ?_)
 refine Lib.hid ?_; clear HT3 t0 t0f; generalize w3.setCell ⟨w1.heap.size, 0, none⟩ (.slice AT l.length cT) = W4 at *; have hW4 : w1.heap.size < W4.heap.size := zba HT4.out.cbk; have hgW4 : gb < W4.heap.size := by omega
 have x1 := zaa (zak HX1.out HT4.out.below) 1; simp at x1
 go_wp2_with ((with_reducible refine zay (b := .append) (xs := #[.tmp 11, .tmp 13]) rfl ?_); refine Hid.out ?_)
 refine Lib.hid ?_; have hbo1 : (([] : List S115).length + m.length) * 24 ≤ 140737488355328 := by simp; omega
 have HBa := zac (Below.refl W4.heap.size W4) (.cells #[] 115)
 at_builtin
 refine Kd.zbj k115 (w0 := W4) (W := W4.alloc (.cells #[] 115)) W4.heap.size rfl (.tmp 11) (.tmp 13) 48 115 (.agg #[(.string ⟨#[]⟩), (.int .i64 0)]) 24 rfl Tryd.underlying48 info115 rfl (by decide) (by decide) _ [] m B m.length d tru (fun _ => False) rfl rfl (R_none (zau W4 _) (Nat.le_refl _)) (HG1.out.below (zam HT4.out.below HBa)).hB (fun x cs h => by obtain rfl := k115_open h; exact k115_mkM _ _ _ _) (fun _ h => h.elim) (fun _ _ => trivial) HBa HBa.size hbo1 ?_
 intro v5 w5 ho5 hb5 hg5 hat5; rw [List.nil_append] at ho5; have HT5 := Lib.hid ((HT4.out.bel hb5).newS ho5 HT4.out.below.size); obtain ⟨AS, cS, rfl, -, -⟩ := Kd.zbb ho5; clear HT4 HBa ho5 hb5 hg5 hat5 hbo1 x1; have t1 := zaa HT5.out.cbk 1; have t1f := zae HT5.out.cbk 1; simp at t1; have HT6 : Hid (Tw w1 (w5.setCell ⟨w1.heap.size, 1, none⟩ (.slice AS m.length cS)) #[.slice AT l.length cT, .slice AS m.length cS, .slice none 0 0] (.slice AT l.length cT) (.slice AS m.length cS) (.slice none 0 0) l m [] (([] : List (Int × HD)).map fun h => hdr h.2) ((ps.take 0).map (·.f1))) := Lib.hid (HT5.out.setC 1 (.slice AS m.length cS) rfl)
 have HL0 : Hid (([] : List (Int × HD)).map (·.1) = (ps.take 0).map (·.f0)) := Lib.hid rfl
 go_wp2_with fail
 clear HT5 t1 t1f
 go_loopw [4] (fun v4 w' => ∃ (i : Nat) (AP : Option Addr) (nP cP : Nat) (hs : List (Int × HD)), v4 = .int .i64 (i : Int) ∧ i ≤ ps.length ∧ Hid (hs.map (·.1) = (ps.take i).map (·.f0)) ∧ Hid (Tw w1 w' #[.slice AT l.length cT, .slice AS m.length cS, .slice AP nP cP] (.slice AT l.length cT) (.slice AS m.length cS) (.slice AP nP cP) l m hs (hs.map fun h => hdr h.2) ((ps.take i).map (·.f1)))) (fun v4 _ => ps.length - (intOf v4).toNat)
 case atStart => exact ⟨0, _, _, _, [], rfl, Nat.zero_le _, HL0, HT6⟩
 case round =>
  clear HT6 HL0; obtain ⟨i, AP, nP, cP, hs, rfl, hi, HL, HT⟩ := hrel; have x2 := zaa (zak HX1.out HT.out.below) 2; simp at x2; have hWr : w1.heap.size < wr.heap.size := zba HT.out.cbk; have hgWr : gb < wr.heap.size := by omega
  by_cases hil : i < ps.length
  ·have hib : decide ((i : Int) < (ps.length : Int)) = true := decide_eq_true (by omega)
   have hi0 : (0 : Int) ≤ (i : Int) := Int.natCast_nonneg _; have hi1 : (i : Int) < (ps.length : Int) := by omega
   have hiw : IntKind.i64.wrap ((i : Int) + 1) = (i : Int) + 1 := IntWalk.i64_in _ (by have := HDT.out; omega)
   have hi2 : i + 1 ≤ ps.length := hil; have hme : ps.length - (i + 1) < ps.length - i := by omega
   obtain ⟨adp, Ap, cp, hCe, p0, p1, hcp, hrp⟩ := at_T77 (HG1.out.below HT.out.below).hC (i : Int) hi0 hi1; subst hCe; rw [Int.toNat_natCast] at p0 p1; rw [rdT77_nat ps i hil] at p0 p1 hcp hrp; have hrow : (ps[i]).f1.length < 1048577 := by have := dots_mem (List.getElem_mem hil); have := HDT.out; omega
   have HTK : Hid (ps.take (i + 1) = ps.take i ++ [ps[i]]) := Lib.hid (List.take_succ_eq_append_getElem hil); generalize ps[i] = pr at *; have HRP := Lib.hid hrp; have HP0 := Lib.hid p0; replace p1 := zan (zac (Below.refl wr.heap.size wr) (.cells #[] 110)) p1; clear hrp hcp
   go_wp2_with ((with_reducible refine zay (b := .append) (xs := #[.tmp 23, .tmp 29]) rfl ?_); refine Hid.out ?_)
   refine Lib.hid ?_; have hbo1 : (([] : List S110).length + pr.f1.length) * 40 ≤ 140737488355328 := by simp; omega
   have HBa := zac (Below.refl wr.heap.size wr) (.cells #[] 110)
   at_builtin
   refine Kd.zbj k110 (w0 := wr) (W := wr.alloc (.cells #[] 110)) wr.heap.size rfl (.tmp 23) (.tmp 29) 75 110 (.agg #[(.int .i64 0), (.string ⟨#[]⟩), (.string ⟨#[]⟩)]) 40 rfl Tryd.underlying75 info110 rfl (by decide) (by decide) _ [] pr.f1 Ap pr.f1.length cp tru (fun _ => False) rfl rfl (R_none (zau wr _) (Nat.le_refl _)) (Kd.zav HRP.out HBa) (fun x cs h => by obtain rfl := k110_open h; exact k110_mkM _ _ _ _) (fun _ h => h.elim) (fun _ _ => trivial) HBa HBa.size hbo1 ?_
   intro v7 w7 ho7 hb7 hg7 hat7; rw [List.nil_append] at ho7; have HT7 := Lib.hid ((HT.out.bel hb7).newR ho7 HT.out.below.size (HT.out.rows.cut (Nat.le_refl _) (fun q hq => Kd.R_base ho7 q hq)))
   obtain ⟨AR, cR, rfl, -, -⟩ := Kd.zbb ho7; have x2 := zaa (zak HX1.out HT7.out.below) 2; simp at x2; have p0 := zan hb7 HP0.out; have t2 := zaa HT7.out.cbk 2; simp at t2; have hbo2 : (hs.length + 1) * 32 ≤ 140737488355328 := by
    have h := congrArg List.length HL.out; rw [List.length_map, List.length_map, List.length_take] at h; have := HDT.out; omega
   clear HT HBa ho7 hb7 hg7 hat7 hbo1 p1; have hmx : Tryd.prog.follows .mixedOrders = true := by kernel_rfl
   go_wp2_with fail
   refine start_ (n := 14) (S := fun w' => w'.cell? ⟨w1.heap.size, 2, none⟩ = some (.slice AP nP cP) ∧ w'.cell? ⟨gb, 2, none⟩ = some (.slice (some adp) ps.length e) ∧ w'.cell? (adp.add (i * 2)) = some (.int .i64 pr.f0)) (ds := [11, 13]) #[false, false, false, false, false, false, false, false, false, false, false, false, false, false] (by kernel_rfl) rfl rfl ⟨t2, x2, p0⟩ (fun hHeld => ?_)
   refine pe_ 0 (some 31) ?_ ?_ ?_ ?_ ?_; rotate_left
   ·intro w'; go_simp
    with_reducible rfl
   rotate_left
   ·simp only [nm_]; rfl
   refine pe_ 2 (some 33) ?_ ?_ ?_ ?_ ?_; rotate_left
   ·intro w'; go_simp
    with_reducible rfl
   rotate_left
   ·simp only [nm_]; rfl
   refine pe_ 4 (some 35) ?_ ?_ ?_ ?_ ?_; rotate_left
   ·intro w'; go_simp
    with_reducible rfl
   rotate_left
   ·simp only [nm_]; rfl
   refine pe_ 8 (some 39) ?_ ?_ ?_ ?_ ?_; rotate_left
   ·intro w'; go_simp
    with_reducible rfl
   rotate_left
   ·simp only [nm_]; rfl
   refine te_ 1 (some 32) hHeld ?_ ?_ ?_ ?_ ?_; rotate_left
   ·rintro w' ⟨s0, s1, s2⟩; go_simp
    with_reducible rfl
   rotate_left
   ·simp only [nm_]; rfl
   refine te_ 3 (some 34) hHeld ?_ ?_ ?_ ?_ ?_; rotate_left
   ·rintro w' ⟨s0, s1, s2⟩; go_simp
    with_reducible rfl
   rotate_left
   ·simp only [nm_]; rfl
   refine pe_ 5 (some 36) ?_ ?_ ?_ ?_ ?_; rotate_left
   ·intro w'; go_simp
    with_reducible rfl
   rotate_left
   ·simp only [nm_]; rfl
   refine pe_ 6 (some 37) ?_ ?_ ?_ ?_ ?_; rotate_left
   ·intro w'; go_simp
    with_reducible rfl
   rotate_left
   ·simp only [nm_]; rfl
   refine te_ 7 (some 38) hHeld ?_ ?_ ?_ ?_ ?_; rotate_left
   ·rintro w' ⟨s0, s1, s2⟩; go_simp
    with_reducible rfl
   rotate_left
   ·simp only [nm_]; rfl
   refine pe_ 9 (some 40) ?_ ?_ ?_ ?_ ?_; rotate_left
   ·intro w'; go_simp
    with_reducible rfl
   rotate_left
   ·simp only [nm_]; rfl
   refine ou_ (i := 10) (N := some 41) rfl rfl (by kernel_rfl) (by decide) (fun K hK => ?_)
   refine value_ (w1 := ?_) (v := ?_) (by rfl) rfl ?_ ?_
   rotate_left 2
   ·go_simp; constructor
    ·rfl
    ·rfl
   refine hK.out _ _ ⟨(zan (zac (Below.refl w7.drew.heap.size w7.drew) _) t2), (zan (zac (Below.refl w7.drew.heap.size w7.drew) _) x2), (zan (zac (Below.refl w7.drew.heap.size w7.drew) _) p0)⟩ (fun hHeld => ?_)
   clear hK K; refine norm_ (a' := ?_) ?_ ?_; rotate_left
   ·show Act.put _ (some 41) _ = _; simp only [nm_]; rfl
   refine lu_ (i := 11) (N := some 42) rfl rfl (by kernel_rfl) (by decide) (fun K hK => ?_)
   refine Kd.R_append_step kP (w0 := w1) (W := w7.drew) w1.heap.size (by rfl) (.tmp 32) (.tmp 41) 49 77 (.agg #[(.int .i64 0), (.slice none 0 0)]) 32 rfl Tryd.underlying49 info77 rfl (by decide) (by decide) (.slice AP nP cP) hs (pr.f0, (AR, pr.f1.length, cR)) [.int .i64 pr.f0, .slice AR pr.f1.length cR] tru (fun _ => False) rfl rfl (kP_M _ _ _ _ _) (fun _ h => h.elim) (fun _ _ => trivial) (Kd.R_drew HT7.out.P) (zaw HT7.out.below) (zaw HT7.out.below).size hbo2 ?_
   intro v8 w8 ho8 hb8 hg8 hat8; have HT8 := Lib.hid ((HT7.out.bel (zaw (Below.refl _ _))).appP ho8 hg8 hb8); obtain ⟨AQ, cQ, hv8, -, -⟩ := Kd.zbb ho8; generalize hn8 : (hs ++ [((pr.f0, (AR, pr.f1.length, cR)) : Int × HD)]).length = nQ at hv8; subst hv8; have t2' := zaa HT8.out.cbk 2; have t2f := zae HT8.out.cbk 2; simp at t2'; clear hn8 ho8 hb8 hg8 hat8; refine hK.out _ _ ?_; clear hK K; refine norm_ (a' := ?_) ?_ ?_; rotate_left
   ·show Act.put _ (some 42) _ = _; simp only [nm_]; rfl
   refine pe_ 12 (some 43) ?_ ?_ ?_ ?_ ?_; rotate_left
   ·intro w'; go_simp
    with_reducible rfl
   rotate_left
   ·simp only [nm_]; rfl
   refine lu_ (i := 13) (N := none) rfl rfl (by kernel_rfl) (by decide) (fun K hK => ?_)
   refine skip_ (w1 := ?_) (by rfl) rfl ?_ ?_
   rotate_left
   ·go_simp; rfl
   refine hK.out _ _ ?_; clear hK K; refine done_ (by kernel_rfl) ?_
   clear hHeld x2 p0 t2 HT7 hbo2; have HT9 : Hid (Tw w1 (w8.setCell ⟨w1.heap.size, 2, none⟩ (.slice AQ nQ cQ)) #[.slice AT l.length cT, .slice AS m.length cS, .slice AQ nQ cQ] (.slice AT l.length cT) (.slice AS m.length cS) (.slice AQ nQ cQ) l m (hs ++ [(pr.f0, (AR, pr.f1.length, cR))]) ((hs ++ [((pr.f0, (AR, pr.f1.length, cR)) : Int × HD)]).map fun h => hdr h.2) ((ps.take (i + 1)).map (·.f1))) := Lib.hid (by
    rw [HTK.out, List.map_append, List.map_append]; exact HT8.out.setC 2 (.slice AQ nQ cQ) rfl)
   have HL9 : Hid ((hs ++ [((pr.f0, (AR, pr.f1.length, cR)) : Int × HD)]).map (·.1) = (ps.take (i + 1)).map (·.f0)) := Lib.hid (by
    rw [HTK.out, List.map_append, List.map_append, HL.out]; rfl)
   clear HT8
   go_wp2_with fail
   clear t2' t2f; go_roundw
   case rel => first | exact ⟨i + 1, AQ, nQ, cQ, _, by rw [Int.natCast_add]; rfl, hi2, HL9, HT9⟩ | ((repeat apply Exists.intro); exact ⟨⟨i + 1, AQ, nQ, cQ, _, by rw [Int.natCast_add]; rfl, hi2, HL9, HT9⟩, rfl⟩)
   case measure => exact hme
  ·have hib : decide ((i : Int) < (ps.length : Int)) = false := decide_eq_false (by omega)
   have hie : i = ps.length := by omega
   subst hie; rw [List.take_length] at HL HT; have t0 := zaa HT.out.cbk 0; have t1 := zaa HT.out.cbk 1; have t2 := zaa HT.out.cbk 2; have HRE := Lib.hid (zak HRB.out HT.out.below); have r0 := zaa HRE.out 0; have r0f := zae HRE.out 0; have r1 := zaa HRE.out 1; have r1f := zae HRE.out 1; have r2 := zaa HRE.out 2; have r2f := zae HRE.out 2; simp at t0 t1 t2 r0 r1 r2
   go_wp2_with fail
   have hp1 := zat (cs' := #[.slice AT l.length cT, .slice none 0 0, .slice none 0 0]) HRE.out 0 (.slice AT l.length cT) rfl; have hp2 := zat (cs' := #[.slice AT l.length cT, .slice AS m.length cS, .slice none 0 0]) hp1 1 (.slice AS m.length cS) rfl; have hp3 := zat (cs' := #[.slice AT l.length cT, .slice AS m.length cS, .slice AP nP cP]) hp2 2 (.slice AP nP cP) rfl; refine bodyPost_ret (results_cell_row rfl _ _ rb 51 #[.slice AT l.length cT, .slice AS m.length cS, .slice AP nP cP] (0, 0) _ rfl hp3 Tryd.underlying51 rfl (by kernel_rfl)) rfl ?_
   have hbw : Below w.heap.size w wr := zam (by rw [hgbe]; exact HB1.out) HT.out.below
   have hwr : w.heap.size ≤ rb := by omega
   have hlo : w.heap.size ≤ w1.heap.size := by omega
   refine ⟨_, _, _, hs, rfl, zaf (zaf (zaf hbw hwr) hwr) hwr, ?_, ?_, ?_, ?_, HL.out⟩
   ·exact Kd.R_lower (Kd.zbp (Kd.zbp (Kd.zbp HT.out.T HRE.out (by decide) _ _) hp1 (by decide) _ _) hp2 (by decide) _ _) hlo
   ·exact Kd.R_lower (Kd.zbp (Kd.zbp (Kd.zbp HT.out.S HRE.out (by decide) _ _) hp1 (by decide) _ _) hp2 (by decide) _ _) hlo
   ·exact Kd.R_lower (Kd.zbp (Kd.zbp (Kd.zbp HT.out.P HRE.out (by decide) _ _) hp1 (by decide) _ _) hp2 (by decide) _ _) hlo
   ·exact (((HT.out.rows.set HRE.out (by decide) _ _).set hp1 (by decide) _ _).set hp2 (by decide) _ _).lower hlo
def mkR : S110 := ⟨-77, ⟨#[]⟩, ⟨#[]⟩⟩
def mkT : S112 := ⟨⟨#[109, 97, 114, 107]⟩, false⟩
def mkS : S115 := ⟨⟨#[109, 97, 114, 107]⟩, 0⟩
structure Room (W : World) (A : Option Addr) (c : Nat) (l : List S112) (B : Option Addr) (d : Nat) (m : List S115) (C : Option Addr) (e : Nat) (ps : List S77) (hs : List (Int × HD)) : Prop where
 hA : k112.C W A (l.length + 1) (l ++ [mkT])
 cA : l.length + 1 ≤ c
 hB : k115.C W B (m.length + 1) (m ++ [mkS])
 cB : m.length + 1 ≤ d
 hC : kP.C W C (ps.length + 1) (hs ++ [(-77, (none, 0, 0))])
 cC : ps.length + 1 ≤ e
 len : hs.length = ps.length
 row : ∀ (i : Nat) (p : S77), ps[i]? = some p → ∃ A1 c1, hs[i]? = some (p.f0, (A1, p.f1.length, c1)) ∧ p.f1.length + 1 ≤ c1 ∧ k110.C W A1 (p.f1.length + 1) (p.f1 ++ [mkR])
theorem C_cut {α : Type} {k : Kd α} {W : World} {A : Option Addr} {xs : List α} {x : α} {n : Nat} (h : k.C W A (n + 1) (xs ++ [x])) (hn : xs.length = n) : k.C W A n xs := by
 subst hn; have e : (xs ++ [x]).length = xs.length + 1 := by rw [List.length_append]; rfl
 rw [← e] at h; have ht := Kd.C_take (m := xs.length) h (by rw [e]; omega)
 rwa [List.take_left' rfl] at ht
section
variable {W W1 : World} {A B C : Option Addr} {c d e : Nat} {l : List S112} {m : List S115} {ps : List S77} {hs : List (Int × HD)}
theorem Room.below (h : Room W A c l B d m C e ps hs) (hb : Below W.heap.size W W1) : Room W1 A c l B d m C e ps hs :=
 ⟨Kd.zav h.hA hb, h.cA, Kd.zav h.hB hb, h.cB, Kd.zav h.hC hb, h.cC, h.len, fun i p hp => by
  obtain ⟨A1, c1, h1, h2, h3⟩ := h.row i p hp; exact ⟨A1, c1, h1, h2, Kd.zav h3 hb⟩⟩
theorem Room.gr (h : Room W A c l B d m C e ps hs) : GR W A c l B d m C e ps := by
 have hC := C_cut h.hC h.len; refine ⟨C_cut h.hA rfl, by have := h.cA; omega, C_cut h.hB rfl, by have := h.cB; omega, ?_, by have := h.cC; omega⟩
 obtain ⟨h1, h2, h3⟩ := hC; refine ⟨rfl, h2, fun hp => ?_⟩
 obtain ⟨ad, e1, hh⟩ := h3 hp; refine ⟨ad, e1, fun j p hj => ?_⟩
 obtain ⟨A1, c1, g1, g2, g3⟩ := h.row j p hj; obtain ⟨cs, hcl, hK, hcc⟩ := hh j _ g1; obtain ⟨c0, c2, rfl, rfl, rfl⟩ := hK; exact ⟨_, rfl, k77_mk W p (show p.f1.length ≤ c1 by omega) (C_cut g3 rfl), hcc⟩
end
structure Rw (w1 W : World) (cb : Nat) (tc : Array Value) (vT vS vP : Value) (l : List S112) (m : List S115) (hs : List (Int × HD)) (vs : List Value) (xs : List (List S110)) : Prop where
 below : Below w1.heap.size w1 W
 ge : w1.heap.size ≤ cb
 cbk : W.heap[cb]? = some (.cells tc 51 (0, 0))
 T : k112.R 112 W w1.heap.size tru vT l
 S : k115.R 115 W w1.heap.size tru vS m
 P : kP.R 77 W w1.heap.size tru vP hs
 rows : Bld.Rows k110 110 W w1.heap.size vs xs
section
variable {w1 W W1 : World} {cb : Nat} {tc : Array Value} {vT vS vP v1 : Value} {l : List S112} {m : List S115} {hs : List (Int × HD)} {vs : List Value} {xs : List (List S110)}
theorem Rw.bel (h : Rw w1 W cb tc vT vS vP l m hs vs xs) (hb : Below W.heap.size W W1) : Rw w1 W1 cb tc vT vS vP l m hs vs xs := ⟨zam h.below hb, h.ge, zak h.cbk hb, Kd.zbf h.T hb, Kd.zbf h.S hb, Kd.zbf h.P hb, h.rows.below hb⟩
theorem Rw.appT (h : Rw w1 W cb tc vT vS vP l m hs vs xs) {l1 : List S112} (hR : k112.R 112 W1 w1.heap.size tru v1 l1) (hg : W.grownBy W1 vT.ownBlock) (hb : Below w1.heap.size w1 W1) : Rw w1 W1 cb tc v1 vS vP l1 m hs vs xs :=
 ⟨hb, h.ge, zas h.cbk hg (Kd.R_ne h.T h.cbk (by decide)), hR, Kd.zbn h.S h.T (by decide) hg, Kd.zbn h.P h.T (by decide) hg, h.rows.over h.T (by decide) hg⟩
theorem Rw.appS (h : Rw w1 W cb tc vT vS vP l m hs vs xs) {m1 : List S115} (hR : k115.R 115 W1 w1.heap.size tru v1 m1) (hg : W.grownBy W1 vS.ownBlock) (hb : Below w1.heap.size w1 W1) : Rw w1 W1 cb tc vT v1 vP l m1 hs vs xs :=
 ⟨hb, h.ge, zas h.cbk hg (Kd.R_ne h.S h.cbk (by decide)), Kd.zbn h.T h.S (by decide) hg, hR, Kd.zbn h.P h.S (by decide) hg, h.rows.over h.S (by decide) hg⟩
theorem Rw.appP (h : Rw w1 W cb tc vT vS vP l m hs vs xs) {hs1 : List (Int × HD)} (hR : kP.R 77 W1 w1.heap.size tru v1 hs1) (hg : W.grownBy W1 vP.ownBlock) (hb : Below w1.heap.size w1 W1) : Rw w1 W1 cb tc vT vS v1 l m hs1 vs xs :=
 ⟨hb, h.ge, zas h.cbk hg (Kd.R_ne h.P h.cbk (by decide)), Kd.zbn h.T h.P (by decide) hg, Kd.zbn h.S h.P (by decide) hg, hR, h.rows.over h.P (by decide) hg⟩
theorem Rw.appR (h : Rw w1 W cb tc vT vS vP l m hs vs xs) {i : Nat} {v : Value} {x ys : List S110} (hv : vs[i]? = some v) (hx : xs[i]? = some x) (hR : k110.R 110 W1 w1.heap.size tru v1 ys) (hg : W.grownBy W1 v.ownBlock) (hat : v1.ownBlock = v.ownBlock ∨ ∃ b, v1.ownBlock = some b ∧ W.heap.size ≤ b) (hb : Below w1.heap.size w1 W1) : Rw w1 W1 cb tc vT vS vP l m hs (vs.set i v1) (xs.set i ys) := by
 have hr := h.rows.row i v x hv hx; exact ⟨hb, h.ge, zas h.cbk hg (Kd.R_ne hr h.cbk (by decide)), Kd.zbn h.T hr (by decide) hg, Kd.zbn h.S hr (by decide) hg, Kd.zbn h.P hr (by decide) hg, h.rows.put E110 hv hg hR hat⟩
theorem Rw.setP {gp n cap : Nat} (h : Rw w1 W cb tc vT vS (.slice (some ⟨gp, 0, none⟩) n cap) l m hs vs xs) {i : Nat} {x : Int × HD} (hx : hs[i]? = some x) (h1 : HD) : Rw w1 (W.setCell ⟨gp, i * 2 + 1, none⟩ (hdr h1)) cb tc vT vS (.slice (some ⟨gp, 0, none⟩) n cap) l m (hs.set i (x.1, h1)) vs xs := by
 obtain ⟨cells, hc⟩ := Kd.R_typed h.P gp rfl; have hgp := Kd.R_base h.P gp rfl; exact ⟨zaf h.below hgp, h.ge, zar h.cbk (p := ⟨gp, _, none⟩) (blk_ne h.cbk hc (by decide)) _, Kd.zbp h.T hc (by decide) _ _, Kd.zbp h.S hc (by decide) _ _, Kd.R_fset h.P i x (x.1, h1) hx 1 (by decide) (hdr h1) (fun W ok cs hm => by
  obtain ⟨c0, c1, rfl, rfl, rfl⟩ := hm; exact ⟨[.int .i64 x.1], [hdr h1], rfl, rfl, rfl⟩), h.rows.set hc (by decide) _ _⟩
end
structure Mk (ps : List S77) (i : Nat) (hs : List (Int × HD)) (vs : List Value) (xs : List (List S110)) : Prop where
 len : hs.length = ps.length
 at_ : ∀ (j : Nat) (p : S77), ps[j]? = some p → ∃ A1 c1, hs[j]? = some (p.f0, (A1, p.f1.length, c1)) ∧ vs[j]? = some (.slice A1 (if j < i then p.f1.length + 1 else p.f1.length) c1) ∧ xs[j]? = some (if j < i then p.f1 ++ [mkR] else p.f1)
theorem Mk.start {ps : List S77} {hs : List (Int × HD)} {w w' : World} {vT vS vP : Value} {l : List S112} {m : List S115} (h : Twin w w' vT vS vP l m ps hs) : Mk ps 0 hs (hs.map fun h => hdr h.2) (ps.map (·.f1)) := by
 have hl : hs.length = ps.length := by have := congrArg List.length h.lhs; simpa using this
 refine ⟨hl, fun j p hp => ?_⟩
 obtain ⟨hj, hpe⟩ := List.getElem?_eq_some_iff.1 hp; obtain ⟨x, hx⟩ : ∃ x, hs[j]? = some x := ⟨_, List.getElem?_eq_getElem (by omega)⟩
 have hv : (hs.map fun h => hdr h.2)[j]? = some (hdr x.2) := by rw [List.getElem?_map, hx]; rfl
 have hr : (ps.map (·.f1))[j]? = some p.f1 := by rw [List.getElem?_map, hp]; rfl
 obtain ⟨A1, c1, he, -, -⟩ := Kd.zbb (h.rows.row j _ _ hv hr); have h0 : x.1 = p.f0 := by
  have e := congrArg (fun l => l[j]?) h.lhs
  simp only [List.getElem?_map, hx, hp] at e; exact Option.some.inj e
 obtain ⟨x0, xa, xn, xc⟩ := x; injection he with e1 e2 e3; simp only at h0 e1 e2 e3; subst h0 e1 e2 e3; refine ⟨xa, xc, hx, ?_, ?_⟩
 ·rw [if_neg (Nat.not_lt_zero _)]; exact hv
 ·rw [if_neg (Nat.not_lt_zero _)]; exact hr
theorem Mk.step {ps : List S77} {i : Nat} {hs : List (Int × HD)} {vs : List Value} {xs : List (List S110)} (h : Mk ps i hs vs xs) {p : S77} (hp : ps[i]? = some p) (A1 : Option Addr) (c1 : Nat) : Mk ps (i + 1) (hs.set i (p.f0, (A1, p.f1.length, c1))) (vs.set i (.slice A1 (p.f1.length + 1) c1)) (xs.set i (p.f1 ++ [mkR])) := by
 refine ⟨by rw [List.length_set]; exact h.len, fun j q hq => ?_⟩
 obtain ⟨A2, c2, a, b, c⟩ := h.at_ j q hq; by_cases hj : i = j
 ·subst hj; rw [hp] at hq; cases hq; have l1 := (List.getElem?_eq_some_iff.1 a).1; have l2 := (List.getElem?_eq_some_iff.1 b).1; have l3 := (List.getElem?_eq_some_iff.1 c).1; refine ⟨A1, c1, List.getElem?_set_self l1, ?_, ?_⟩
  ·rw [List.getElem?_set_self l2, if_pos (Nat.lt_succ_self _)]
  ·rw [List.getElem?_set_self l3, if_pos (Nat.lt_succ_self _)]
 ·refine ⟨A2, c2, by rw [List.getElem?_set_ne hj]; exact a, ?_, ?_⟩
  ·rw [List.getElem?_set_ne hj, b]; by_cases hk : j < i
   ·rw [if_pos hk, if_pos (by omega)]
   ·rw [if_neg hk, if_neg (by omega)]
  ·rw [List.getElem?_set_ne hj, c]; by_cases hk : j < i
   ·rw [if_pos hk, if_pos (by omega)]
   ·rw [if_neg hk, if_neg (by omega)]
theorem add_z (g n : Nat) : (⟨g, 0, none⟩ : Addr).add n = ⟨g, n, none⟩ := by
 unfold Addr.add
 split <;> simp_all
theorem at_kP {W : World} {g n cap base : Nat} {ok : Nat → Prop} {hs : List (Int × HD)} (h : kP.R 77 W base ok (.slice (some ⟨g, 0, none⟩) n cap) hs) {i : Nat} {x : Int × HD} (hx : hs[i]? = some x) : W.cell? ⟨g, i * 2, none⟩ = some (.int .i64 x.1) ∧ W.cell? ⟨g, i * 2 + 1, none⟩ = some (hdr x.2) := by
 obtain ⟨-, -, hC⟩ := Kd.zbh h; have hi := (List.getElem?_eq_some_iff.1 hx).1; obtain ⟨ad, cs, e1, hcl, hK, hcc⟩ := Kd.C_get hC (0, (none, 0, 0)) (i : Int) (Int.natCast_nonneg _) (by omega)
 injection e1 with e1; subst e1; rw [Int.toNat_natCast, List.getD_eq_getElem?_getD, hx] at hK; obtain ⟨c0, c1, rfl, rfl, rfl⟩ := hK; have h0 := hcc 0 _ rfl; have h1 := hcc 1 _ rfl; rw [Int.toNat_natCast, add_z] at h0 h1; exact ⟨h0, h1⟩
set_option maxRecDepth 100000 in
set_option maxHeartbeats 8000000 in
theorem roomy_any (A : Option Addr) (c : Nat) (l : List S112) (B : Option Addr) (d : Nat) (m : List S115) (C : Option Addr) (e : Nat) (ps : List S77) (w : World) (hg : GR w A c l B d m C e ps) (hl : l.length ≤ 1048576) (hm : m.length ≤ 1048576) (hd : dots ps ≤ 1048576) :
  Calls Tryd.prog 19 #[.agg #[.slice A l.length c, .slice B m.length d, .slice C ps.length e]] w fun e' w' => ∃ A' c' B' d' C' e2 hs, e' = .returned (.agg #[.slice A' l.length c', .slice B' m.length d', .slice C' ps.length e2]) ∧ Room w' A' c' l B' d' m C' e2 ps hs ∧ Below w.heap.size w w' := by
 have hlen := dots_len ps; have hbe := zac (zac (Below.refl w.heap.size w) (.cells #[.slice A l.length c, .slice B m.length d, .slice C ps.length e] 51)) (.cells #[.slice none 0 0, .slice none 0 0, .slice none 0 0] 51); have HB1 := Lib.hid hbe; have HG1 := Lib.hid (hg.below hbe); have HX1 := Lib.hid (zad (zau w (.cells #[.slice A l.length c, .slice B m.length d, .slice C ps.length e] 51)) (.cells #[.slice none 0 0, .slice none 0 0, .slice none 0 0] 51)); have hr := zau (w.alloc (.cells #[.slice A l.length c, .slice B m.length d, .slice C ps.length e] 51)) (.cells #[.slice none 0 0, .slice none 0 0, .slice none 0 0] 51); rw [szA] at hr; have HRB := Lib.hid hr; have hsz : ((w.alloc (.cells #[.slice A l.length c, .slice B m.length d, .slice C ps.length e] 51)).alloc (.cells #[.slice none 0 0, .slice none 0 0, .slice none 0 0] 51)).heap.size = w.heap.size + 1 + 1 := by rw [szA, szA]
 have HDT := Lib.hid hd; clear hg hbe hr hd
 go_enter Tryd.func19, Tryd.ntmps19
 go_wp2_with ((with_reducible refine gate_ (.load 51 (.tmp 1)) rfl ?_); refine Hid.out ?_)
 refine Lib.hid ?_; generalize (w.alloc (.cells #[.slice A l.length c, .slice B m.length d, .slice C ps.length e] 51)).alloc (.cells #[.slice none 0 0, .slice none 0 0, .slice none 0 0] 51) = w1 at *; generalize hrbe : w.heap.size + 1 = rb at *; have hgl : w.heap.size < w1.heap.size := by omega
 have hrl : rb < w1.heap.size := by omega
 have hgwb : w.heap.size ≤ rb := by omega
 clear hsz hrbe; generalize hgbe : w.heap.size = gb at *; have x0 := zaa HX1.out 0; have x1 := zaa HX1.out 1; have x2 := zaa HX1.out 2; simp at x0 x1 x2; have HTW := Lib.hid (twin_any A c l B d m C e ps w1 HG1.out hl hm HDT.out)
 go_wp2_with (go_at_call 28; refine (HTW.out).mono ?_; rintro e2 w2 ⟨vT, vS, vP, hs0, rfl, htw⟩; refine Hid.out ?_)
 refine Lib.hid ?_; have HMK0 := Lib.hid (Mk.start htw); obtain ⟨AT, cT, rfl, -, -⟩ := Kd.zbb htw.T; obtain ⟨AS, cS, rfl, -, -⟩ := Kd.zbb htw.S; obtain ⟨AP, cP, hvP, -, -⟩ := Kd.zbb htw.P; rw [HMK0.out.len] at hvP; subst hvP; have HR0 : Hid (Rw w1 (w2.alloc (.cells #[.slice AT l.length cT, .slice AS m.length cS, .slice AP ps.length cP] 51)) w2.heap.size #[.slice AT l.length cT, .slice AS m.length cS, .slice AP ps.length cP] (.slice AT l.length cT) (.slice AS m.length cS) (.slice AP ps.length cP) l m hs0 (hs0.map fun h => hdr h.2) (ps.map (·.f1))) := Lib.hid (by
  have hb := zac (Below.refl w2.heap.size w2) (.cells #[.slice AT l.length cT, .slice AS m.length cS, .slice AP ps.length cP] 51); exact ⟨zam htw.below hb, htw.below.size, zau w2 _, Kd.zbf htw.T hb, Kd.zbf htw.S hb, Kd.zbf htw.P hb, htw.rows.below hb⟩)
 clear x0 x1 x2 HTW htw
 go_wp2_with fail
 generalize w2.heap.size = cb at *
 go_loopw [4] (fun v4 w' => ∃ (i : Nat) (hs : List (Int × HD)) (vs : List Value) (xs : List (List S110)), v4 = .int .i64 (i : Int) ∧ i ≤ ps.length ∧ Hid (Mk ps i hs vs xs) ∧ Hid (Rw w1 w' cb #[.slice AT l.length cT, .slice AS m.length cS, .slice AP ps.length cP] (.slice AT l.length cT) (.slice AS m.length cS) (.slice AP ps.length cP) l m hs vs xs)) (fun v4 _ => ps.length - (intOf v4).toNat)
 case atStart => exact ⟨0, _, _, _, rfl, Nat.zero_le _, HMK0, HR0⟩
 case round =>
  clear HMK0 HR0; obtain ⟨i, hs, vs, xs, rfl, hi, HM, HR⟩ := hrel; have c2 := zaa HR.out.cbk 2; simp at c2; have hWr : cb < wr.heap.size := zba HR.out.cbk; by_cases hil : i < ps.length
  ·have hib : decide ((i : Int) < (ps.length : Int)) = true := decide_eq_true (by omega)
   have hi0 : (0 : Int) ≤ (i : Int) := Int.natCast_nonneg _; have hi1 : (i : Int) < (ps.length : Int) := by omega
   have hiw : IntKind.i64.wrap ((i : Int) + 1) = (i : Int) + 1 := IntWalk.i64_in _ (by have := HDT.out; omega)
   have hi2 : i + 1 ≤ ps.length := hil; have hme : ps.length - (i + 1) < ps.length - i := by omega
   obtain ⟨p, hp⟩ : ∃ p, ps[i]? = some p := ⟨_, List.getElem?_eq_getElem hil⟩; have HP := Lib.hid hp; obtain ⟨A1, c1, hh, hv, hx⟩ := HM.out.at_ i p hp; rw [if_neg (Nat.lt_irrefl _)] at hv hx; have hrow := HR.out.rows.row i _ _ hv hx; have HV := Lib.hid hv; have HXI := Lib.hid hx; have HH := Lib.hid hh; have hrl1 : p.f1.length < 1048577 := by have := dots_mem (List.mem_of_getElem? hp); have := HDT.out; omega
   obtain ⟨gp, cap, heP, hgp, -, cells, hcc⟩ := Kd.R_form HR.out.P (by rw [HM.out.len]; omega)
   injection heP with e1 e2 e3; subst e1; obtain ⟨q0, q1⟩ := at_kP HR.out.P hh; simp only [hdr] at q1; have HROW := Lib.hid (Kd.R_mono hrow (fun _ _ => trivial) : k110.R 110 wr w1.heap.size tru (.slice A1 p.f1.length c1) p.f1)
   obtain ⟨adp, Ap, cp, hCe, -, p1, hcp, -⟩ := at_T77 HG1.out.hC (i : Int) hi0 hi1; subst hCe; have hpe : ps[i] = p := (List.getElem?_eq_some_iff.1 hp).2; rw [Int.toNat_natCast, rdT77_nat ps i hil, hpe] at p1; have HP1 := Lib.hid p1; have hbo : (p.f1.length + 1) * 40 ≤ 140737488355328 := by omega
   clear hp hv hx hrow hh e2 e3 hcc p1 hpe hcp
   go_wp2_with ((with_reducible refine zay (b := .append) (xs := #[.tmp 23, .tmp 25]) rfl ?_); refine Hid.out ?_)
   refine Lib.hid ?_
   at_builtin
   refine Kd.R_append k110 (w0 := w1) (W := wr) w1.heap.size rfl (.tmp 23) (.tmp 25) 75 110 (.agg #[(.int .i64 0), (.string ⟨#[]⟩), (.string ⟨#[]⟩)]) 40 rfl Tryd.underlying75 info110 rfl (by decide) (by decide) (.slice A1 p.f1.length c1) p.f1 mkR [.int .i64 (-77), .string ⟨#[]⟩, .string ⟨#[]⟩] tru (fun _ => False) rfl rfl (k110_mkM _ _ _ _) (fun _ h => h.elim) (fun _ _ => trivial) HROW.out HR.out.below HR.out.below.size hbo ?_
   intro v7 w7 ho7 hb7 hg7 hat7; have HR7 := Lib.hid (HR.out.appR HV.out HXI.out ho7 hg7 hat7 hb7); obtain ⟨A2, c2', hv7, hc27, -⟩ := Kd.zbb ho7; have hn7 : (p.f1 ++ [mkR]).length = p.f1.length + 1 := by rw [List.length_append]; rfl
   rw [hn7] at hv7 hc27; subst hv7; clear ho7 hb7 hg7 hat7 HR HROW q0 q1 c2 hbo; have c2 := zaa HR7.out.cbk 2; simp at c2; have x2 := zaa (zak HX1.out HR7.out.below) 2; simp at x2; have p1 := zan HR7.out.below HP1.out; obtain ⟨i0, hj0, hj0s⟩ := Option.map_eq_some_iff.1 info110; have hcut := cut_to (P := Tryd.prog) 75 110 .i64 Tryd.underlying75 hj0 A2 (p.f1.length + 1) c2' (p.f1.length : Int) (Int.natCast_nonneg _) (by omega) hc27
   rw [Int.toNat_natCast] at hcut; obtain ⟨cells7, hcc7⟩ := Kd.R_typed HR7.out.P gp rfl; have q1f := zae hcc7 (i * 2 + 1); have q1 := (at_kP HR7.out.P HH.out).2; simp only [hdr] at q1; have hWr7 : cb < w7.heap.size := zba HR7.out.cbk; have hmx : Tryd.prog.follows .mixedOrders = true := by kernel_rfl
   go_wp2_with fail
   refine start_ (n := 15) (S := fun w' => w'.cell? ⟨cb, 2, none⟩ = some (.slice (some ⟨gp, 0, none⟩) ps.length cP) ∧ w'.cell? ⟨gb, 2, none⟩ = some (.slice (some adp) ps.length e) ∧ w'.cell? ⟨(adp.add (i * 2)).block, (adp.add (i * 2)).off + 1, none⟩ = some (.slice Ap p.f1.length cp)) (ds := [14]) #[false, false, false, false, false, false, false, false, false, false, false, false, false, false, false] (by kernel_rfl) rfl rfl ⟨c2, x2, p1⟩ (fun hHeld => ?_)
   refine pe_ 0 (some 27) ?_ ?_ ?_ ?_ ?_; rotate_left
   ·intro w'; go_simp
    with_reducible rfl
   rotate_left
   ·simp only [nm_]; rfl
   refine pe_ 2 (some 29) ?_ ?_ ?_ ?_ ?_; rotate_left
   ·intro w'; go_simp
    with_reducible rfl
   rotate_left
   ·simp only [nm_]; rfl
   refine pe_ 3 (some 30) ?_ ?_ ?_ ?_ ?_; rotate_left
   ·intro w'; go_simp
    with_reducible rfl
   rotate_left
   ·simp only [nm_]; rfl
   refine pe_ 4 (some 31) ?_ ?_ ?_ ?_ ?_; rotate_left
   ·intro w'; go_simp
    with_reducible rfl
   rotate_left
   ·simp only [nm_]; rfl
   refine pe_ 6 (some 33) ?_ ?_ ?_ ?_ ?_; rotate_left
   ·intro w'; go_simp
    with_reducible rfl
   rotate_left
   ·simp only [nm_]; rfl
   refine te_ 1 (some 28) hHeld ?_ ?_ ?_ ?_ ?_; rotate_left
   ·rintro w' ⟨s0, s1, s2⟩; go_simp
    with_reducible rfl
   rotate_left
   ·simp only [nm_]; rfl
   refine te_ 5 (some 32) hHeld ?_ ?_ ?_ ?_ ?_; rotate_left
   ·rintro w' ⟨s0, s1, s2⟩; go_simp
    with_reducible rfl
   rotate_left
   ·simp only [nm_]; rfl
   refine pe_ 7 (some 34) ?_ ?_ ?_ ?_ ?_; rotate_left
   ·intro w'; go_simp
    with_reducible rfl
   rotate_left
   ·simp only [nm_]; rfl
   refine pe_ 8 (some 35) ?_ ?_ ?_ ?_ ?_; rotate_left
   ·intro w'; go_simp
    with_reducible rfl
   rotate_left
   ·simp only [nm_]; rfl
   refine te_ 9 (some 36) hHeld ?_ ?_ ?_ ?_ ?_; rotate_left
   ·rintro w' ⟨s0, s1, s2⟩; go_simp
    with_reducible rfl
   rotate_left
   ·simp only [nm_]; rfl
   refine pe_ 10 (some 37) ?_ ?_ ?_ ?_ ?_; rotate_left
   ·intro w'; go_simp
    with_reducible rfl
   rotate_left
   ·simp only [nm_]; rfl
   refine pe_ 11 (some 38) ?_ ?_ ?_ ?_ ?_; rotate_left
   ·intro w'; go_simp
    with_reducible rfl
   rotate_left
   ·simp only [nm_]; rfl
   refine pe_ 12 (some 39) ?_ ?_ ?_ ?_ ?_; rotate_left
   ·intro w'; go_simp
    with_reducible rfl
   rotate_left
   ·simp only [nm_]; rfl
   refine pe_ 13 (some 40) ?_ ?_ ?_ ?_ ?_; rotate_left
   ·intro w'; go_simp
    with_reducible rfl
   rotate_left
   ·simp only [nm_]; rfl
   refine lu_ (i := 14) (N := none) rfl rfl (by kernel_rfl) (by decide) (fun K hK => ?_)
   refine skip_ (w1 := ?_) (by rfl) rfl ?_ ?_
   rotate_left
   ·go_simp; rfl
   refine hK.out _ _ ?_; clear hK K; refine done_ (by kernel_rfl) ?_
   clear hHeld c2 x2 p1 q1; have HR8 := Lib.hid ((HR7.out.setP HH.out (A2, p.f1.length, c2')).bel (zaw (Below.refl _ _))); have HM8 := Lib.hid (HM.out.step HP.out A2 c2'); clear HR7 hcc7 q1f hcut hj0 hj0s
   go_wp2_with fail
   go_roundw
   case rel => first | exact ⟨i + 1, _, _, _, by rw [Int.natCast_add]; rfl, hi2, HM8, HR8⟩ | ((repeat apply Exists.intro); exact ⟨⟨i + 1, _, _, _, by rw [Int.natCast_add]; rfl, hi2, HM8, HR8⟩, rfl⟩)
   case measure => exact hme
  ·have hib : decide ((i : Int) < (ps.length : Int)) = false := decide_eq_false (by omega)
   have hie : i = ps.length := by omega
   subst hie; have c0 := zaa HR.out.cbk 0; simp at c0; have hboT : (l.length + 1) * 24 ≤ 140737488355328 := by omega
   go_wp2_with ((with_reducible refine zay (b := .append) (xs := #[.tmp 42, .tmp 44]) rfl ?_); refine Hid.out ?_)
   refine Lib.hid ?_
   at_builtin
   refine Kd.R_append k112 (w0 := w1) (W := wr) w1.heap.size rfl (.tmp 42) (.tmp 44) 47 112 (.agg #[(.string ⟨#[]⟩), (.bool false)]) 24 rfl Tryd.underlying47 info112 rfl (by decide) (by decide) (.slice AT l.length cT) l mkT [.string ⟨#[109, 97, 114, 107]⟩, .bool false] tru (fun _ => False) rfl rfl (k112_mkM _ _ _ _) (fun _ h => h.elim) (fun _ _ => trivial) HR.out.T HR.out.below HR.out.below.size hboT ?_
   intro v7 w7 ho7 hb7 hg7 hat7; have HR7 := Lib.hid (HR.out.appT ho7 hg7 hb7); obtain ⟨A6, c6, hv7, hc67, -⟩ := Kd.zbb ho7; have hn7 : (l ++ [mkT]).length = l.length + 1 := by rw [List.length_append]; rfl
   rw [hn7] at hv7 hc67; subst hv7; clear ho7 hb7 hg7 hat7 HR c0 c2 hboT hn7; have c1 := zaa HR7.out.cbk 1; simp at c1; have hboS : (m.length + 1) * 24 ≤ 140737488355328 := by omega
   have hWr7 : cb < w7.heap.size := zba HR7.out.cbk
   go_wp2_with ((with_reducible refine zay (b := .append) (xs := #[.tmp 47, .tmp 49]) rfl ?_); refine Hid.out ?_)
   refine Lib.hid ?_
   at_builtin
   refine Kd.R_append k115 (w0 := w1) (W := w7) w1.heap.size rfl (.tmp 47) (.tmp 49) 48 115 (.agg #[(.string ⟨#[]⟩), (.int .i64 0)]) 24 rfl Tryd.underlying48 info115 rfl (by decide) (by decide) (.slice AS m.length cS) m mkS [.string ⟨#[109, 97, 114, 107]⟩, .int .i64 0] tru (fun _ => False) rfl rfl (k115_mkM _ _ _ _) (fun _ h => h.elim) (fun _ _ => trivial) HR7.out.S HR7.out.below HR7.out.below.size hboS ?_
   intro v8 w8 ho8 hb8 hg8 hat8; have HR8 := Lib.hid (HR7.out.appS ho8 hg8 hb8); obtain ⟨A7, c7, hv8, hc78, -⟩ := Kd.zbb ho8; have hn8 : (m ++ [mkS]).length = m.length + 1 := by rw [List.length_append]; rfl
   rw [hn8] at hv8 hc78; subst hv8; clear ho8 hb8 hg8 hat8 HR7 c1 hboS hn8; have c2 := zaa HR8.out.cbk 2; simp at c2; have hboP : (hs.length + 1) * 32 ≤ 140737488355328 := by rw [HM.out.len]; have := HDT.out; omega
   have hWr8 : cb < w8.heap.size := zba HR8.out.cbk
   go_wp2_with ((with_reducible refine zay (b := .append) (xs := #[.tmp 52, .tmp 54]) rfl ?_); refine Hid.out ?_)
   refine Lib.hid ?_
   at_builtin
   refine Kd.R_append kP (w0 := w1) (W := w8) w1.heap.size rfl (.tmp 52) (.tmp 54) 49 77 (.agg #[(.int .i64 0), (.slice none 0 0)]) 32 rfl Tryd.underlying49 info77 rfl (by decide) (by decide) (.slice AP ps.length cP) hs (-77, (none, 0, 0)) [.int .i64 (-77), .slice none 0 0] tru (fun _ => False) rfl rfl (kP_M _ _ _ _ _) (fun _ h => h.elim) (fun _ _ => trivial) HR8.out.P HR8.out.below HR8.out.below.size hboP ?_
   intro v9 w9 ho9 hb9 hg9 hat9; have HR9 := Lib.hid (HR8.out.appP ho9 hg9 hb9); obtain ⟨A8, c8, hv9, hc89, -⟩ := Kd.zbb ho9; have hn9 : (hs ++ [((-77, (none, 0, 0)) : Int × HD)]).length = ps.length + 1 := by rw [List.length_append, HM.out.len]; rfl
   rw [hn9] at hv9 hc89; subst hv9; clear ho9 hb9 hg9 hat9 HR8 c2 hboP hn9; have HX9 := Lib.hid (zak HX1.out HR9.out.below); have x0 := zaa HX9.out 0; have x1 := zaa HX9.out 1; have x2 := zaa HX9.out 2; have HRE := Lib.hid (zak HRB.out HR9.out.below); have r0 := zaa HRE.out 0; have r0f := zae HRE.out 0; have r1 := zaa HRE.out 1; have r1f := zae HRE.out 1; have r2 := zaa HRE.out 2; have r2f := zae HRE.out 2; simp at x0 x1 x2 r0 r1 r2; obtain ⟨i0, hj0, hj0s⟩ := Option.map_eq_some_iff.1 info112; have hcutT := cut_to (P := Tryd.prog) 47 112 .i64 Tryd.underlying47 hj0 A6 (l.length + 1) c6 (l.length : Int) (Int.natCast_nonneg _) (by omega) hc67
   obtain ⟨i1, hj1, hj1s⟩ := Option.map_eq_some_iff.1 info115; have hcutS := cut_to (P := Tryd.prog) 48 115 .i64 Tryd.underlying48 hj1 A7 (m.length + 1) c7 (m.length : Int) (Int.natCast_nonneg _) (by omega) hc78
   obtain ⟨i2, hj2, hj2s⟩ := Option.map_eq_some_iff.1 info77; have hcutP := cut_to (P := Tryd.prog) 49 77 .i64 Tryd.underlying49 hj2 A8 (ps.length + 1) c8 (ps.length : Int) (Int.natCast_nonneg _) (by omega) hc89
   rw [Int.toNat_natCast] at hcutT hcutS hcutP; have hmx : Tryd.prog.follows .mixedOrders = true := by kernel_rfl
   clear hj0 hj0s hj1 hj1s hj2 hj2s
   go_wp2_with fail
   refine start_ (n := 17) (S := fun w' => w'.cell? ⟨gb, 0, none⟩ = some (.slice A l.length c) ∧ w'.cell? ⟨gb, 1, none⟩ = some (.slice B m.length d) ∧ w'.cell? ⟨gb, 2, none⟩ = some (.slice C ps.length e)) (ds := [16]) #[false, false, false, false, false, false, false, false, false, false, false, false, false, false, false, false, false] (by kernel_rfl) rfl rfl ⟨x0, x1, x2⟩ (fun hHeld => ?_)
   refine pe_ 0 (some 56) ?_ ?_ ?_ ?_ ?_; rotate_left
   ·intro w'; go_simp
    with_reducible rfl
   rotate_left
   ·simp only [nm_]; rfl
   refine pe_ 1 (some 57) ?_ ?_ ?_ ?_ ?_; rotate_left
   ·intro w'; go_simp
    with_reducible rfl
   rotate_left
   ·simp only [nm_]; rfl
   refine pe_ 5 (some 61) ?_ ?_ ?_ ?_ ?_; rotate_left
   ·intro w'; go_simp
    with_reducible rfl
   rotate_left
   ·simp only [nm_]; rfl
   refine pe_ 6 (some 62) ?_ ?_ ?_ ?_ ?_; rotate_left
   ·intro w'; go_simp
    with_reducible rfl
   rotate_left
   ·simp only [nm_]; rfl
   refine pe_ 10 (some 66) ?_ ?_ ?_ ?_ ?_; rotate_left
   ·intro w'; go_simp
    with_reducible rfl
   rotate_left
   ·simp only [nm_]; rfl
   refine pe_ 11 (some 67) ?_ ?_ ?_ ?_ ?_; rotate_left
   ·intro w'; go_simp
    with_reducible rfl
   rotate_left
   ·simp only [nm_]; rfl
   refine te_ 2 (some 58) hHeld ?_ ?_ ?_ ?_ ?_; rotate_left
   ·rintro w' ⟨s0, s1, s2⟩; go_simp
    with_reducible rfl
   rotate_left
   ·simp only [nm_]; rfl
   refine pe_ 3 (some 59) ?_ ?_ ?_ ?_ ?_; rotate_left
   ·intro w'; go_simp
    with_reducible rfl
   rotate_left
   ·simp only [nm_]; rfl
   refine pe_ 4 (some 60) ?_ ?_ ?_ ?_ ?_; rotate_left
   ·intro w'; go_simp
    with_reducible rfl
   rotate_left
   ·simp only [nm_]; rfl
   refine te_ 7 (some 63) hHeld ?_ ?_ ?_ ?_ ?_; rotate_left
   ·rintro w' ⟨s0, s1, s2⟩; go_simp
    with_reducible rfl
   rotate_left
   ·simp only [nm_]; rfl
   refine pe_ 8 (some 64) ?_ ?_ ?_ ?_ ?_; rotate_left
   ·intro w'; go_simp
    with_reducible rfl
   rotate_left
   ·simp only [nm_]; rfl
   refine pe_ 9 (some 65) ?_ ?_ ?_ ?_ ?_; rotate_left
   ·intro w'; go_simp
    with_reducible rfl
   rotate_left
   ·simp only [nm_]; rfl
   refine te_ 12 (some 68) hHeld ?_ ?_ ?_ ?_ ?_; rotate_left
   ·rintro w' ⟨s0, s1, s2⟩; go_simp
    with_reducible rfl
   rotate_left
   ·simp only [nm_]; rfl
   refine pe_ 13 (some 69) ?_ ?_ ?_ ?_ ?_; rotate_left
   ·intro w'; go_simp
    with_reducible rfl
   rotate_left
   ·simp only [nm_]; rfl
   refine pe_ 14 (some 70) ?_ ?_ ?_ ?_ ?_; rotate_left
   ·intro w'; go_simp
    with_reducible rfl
   rotate_left
   ·simp only [nm_]; rfl
   refine pe_ 15 (some 71) ?_ ?_ ?_ ?_ ?_; rotate_left
   ·intro w'; go_simp
    with_reducible rfl
   rotate_left
   ·simp only [nm_]; rfl
   refine lu_ (i := 16) (N := none) rfl rfl (by kernel_rfl) (by decide) (fun K hK => ?_)
   refine skip_ (w1 := ?_) (by rfl) rfl ?_ ?_
   rotate_left
   ·go_simp; rfl
   refine hK.out _ _ ?_; clear hK K; refine done_ (by kernel_rfl) ?_
   clear hHeld x0 x1 x2; have hp1 := zat (cs' := #[.slice A6 l.length c6, .slice none 0 0, .slice none 0 0]) HRE.out 0 (.slice A6 l.length c6) rfl; have hp2 := zat (cs' := #[.slice A6 l.length c6, .slice A7 m.length c7, .slice none 0 0]) hp1 1 (.slice A7 m.length c7) rfl; have hp3 := zat (cs' := #[.slice A6 l.length c6, .slice A7 m.length c7, .slice A8 ps.length c8]) hp2 2 (.slice A8 ps.length c8) rfl
   go_wp2_with fail
   refine bodyPost_ret (results_cell_row rfl _ _ rb 51 #[.slice A6 l.length c6, .slice A7 m.length c7, .slice A8 ps.length c8] (0, 0) _ rfl (zah hp3) Tryd.underlying51 rfl (by kernel_rfl)) rfl ?_
   have hbw : Below w.heap.size w w9 := zam (by rw [hgbe]; exact HB1.out) HR9.out.below
   have hwr : w.heap.size ≤ rb := by omega
   obtain ⟨-, -, hT⟩ := Kd.zbh (Kd.R_drew (Kd.zbp (Kd.zbp (Kd.zbp HR9.out.T HRE.out (by decide) 0 (.slice A6 l.length c6)) hp1 (by decide) 1 (.slice A7 m.length c7)) hp2 (by decide) 2 (.slice A8 ps.length c8)))
   obtain ⟨-, -, hS⟩ := Kd.zbh (Kd.R_drew (Kd.zbp (Kd.zbp (Kd.zbp HR9.out.S HRE.out (by decide) 0 (.slice A6 l.length c6)) hp1 (by decide) 1 (.slice A7 m.length c7)) hp2 (by decide) 2 (.slice A8 ps.length c8)))
   obtain ⟨-, -, hP⟩ := Kd.zbh (Kd.R_drew (Kd.zbp (Kd.zbp (Kd.zbp HR9.out.P HRE.out (by decide) 0 (.slice A6 l.length c6)) hp1 (by decide) 1 (.slice A7 m.length c7)) hp2 (by decide) 2 (.slice A8 ps.length c8)))
   have hrows := (((HR9.out.rows.set HRE.out (by decide) 0 (.slice A6 l.length c6)).set hp1 (by decide) 1 (.slice A7 m.length c7)).set hp2 (by decide) 2 (.slice A8 ps.length c8)).below (zaw (Below.refl _ _))
   rw [show (l ++ [mkT]).length = l.length + 1 by rw [List.length_append]; rfl] at hT
   rw [show (m ++ [mkS]).length = m.length + 1 by rw [List.length_append]; rfl] at hS
   rw [show (hs ++ [((-77, (none, 0, 0)) : Int × HD)]).length = ps.length + 1 by rw [List.length_append, HM.out.len]; rfl] at hP
   refine ⟨A6, c6, A7, c7, A8, c8, hs, rfl, ⟨hT, hc67, hS, hc78, hP, hc89, HM.out.len, fun i p hp => ?_⟩, zaw (zaf (zaf (zaf hbw hwr) hwr) hwr)⟩
   obtain ⟨A1, c1, h1, h2, h3⟩ := HM.out.at_ i p hp; have hi := (List.getElem?_eq_some_iff.1 hp).1; rw [if_pos hi] at h2 h3; obtain ⟨e1, hle, hC⟩ := Kd.zbh (hrows.row i _ _ h2 h3); have hn1 : (p.f1 ++ [mkR]).length = p.f1.length + 1 := by rw [List.length_append]; rfl
   rw [hn1] at hC; exact ⟨A1, c1, h1, hle, hC⟩
end Rm
end Go.Proofs.YtcijanmckhlpiaaDoor
namespace Go.Proofs.YtcijanmckhlpiaaDoor.PTableBuilds
open Go.RowKit Go.Proofs.YtcijanmckhlpiaaDoorW.PrintWords Go.Proofs.YtcijanmckhlpiaaDoorW.PrintLast Go.Proofs.YtcijanmckhlpiaaDoorW.PrintMore
attribute [local go_sem] max2_int min2_int max_two min_two max_three min_three max_four min_four
theorem eqA110 (d : Nat) (w : World) (x0 y0 : Int) (x1 y1 : ByteArray) (x2 y2 : ByteArray) :
  (Op.equalIn (d + 2) 110 (.agg #[.int .i64 x0, .string x1, .string x2]) (.agg #[.int .i64 y0, .string y1, .string y2])).run Tryd.prog w = .ok (x0 == y0 && (x1.toList == y1.toList && (x2.toList == y2.toList))) w := by
 refine eqA_of Tryd.underlying110 (by kernel_rfl) ?_
 refine eqf_cons (by rfl) (by go_simp; rfl) (by go_simp; rfl) (by go_simp) ?_
 refine eqf_cons (by rfl) (by go_simp; rfl) (by go_simp; rfl) (by go_simp) ?_
 exact eqf_last (by rfl) (by go_simp; rfl) (by go_simp; rfl) (by go_simp)
attribute [local go_sem] max2_int min2_int max_two min_two max_three min_three max_four min_four
theorem eqA112 (d : Nat) (w : World) (x0 y0 : ByteArray) (x1 y1 : Bool) :
  (Op.equalIn (d + 2) 112 (.agg #[.string x0, .bool x1]) (.agg #[.string y0, .bool y1])).run Tryd.prog w = .ok (x0.toList == y0.toList && (x1 == y1)) w := by
 refine eqA_of Tryd.underlying112 (by kernel_rfl) ?_
 refine eqf_cons (by rfl) (by go_simp; rfl) (by go_simp; rfl) (by go_simp) ?_
 exact eqf_last (by rfl) (by go_simp; rfl) (by go_simp; rfl) (by go_simp)
attribute [local go_sem] max2_int min2_int max_two min_two max_three min_three max_four min_four
theorem eqA115 (d : Nat) (w : World) (x0 y0 : ByteArray) (x1 y1 : Int) :
  (Op.equalIn (d + 2) 115 (.agg #[.string x0, .int .i64 x1]) (.agg #[.string y0, .int .i64 y1])).run Tryd.prog w = .ok (x0.toList == y0.toList && (x1 == y1)) w := by
 refine eqA_of Tryd.underlying115 (by kernel_rfl) ?_
 refine eqf_cons (by rfl) (by go_simp; rfl) (by go_simp; rfl) (by go_simp) ?_
 exact eqf_last (by rfl) (by go_simp; rfl) (by go_simp; rfl) (by go_simp)
end Go.Proofs.YtcijanmckhlpiaaDoor.PTableBuilds
