import Derived.Test.YtcijanmckhlpiaaAwake
import Derived.Test.YtcijanmckhlpiaaPaintPlain2
import Derived.OpenShut
import Derived.Deep.CutBlock
namespace Go.Proofs.Ytcijanmckhlpiaa
open Go.RowKit Go.Proofs.YtcijanmckhlpiaaW.PrintWords Go.Proofs.YtcijanmckhlpiaaW.PrintLast Go.Proofs.YtcijanmckhlpiaaW.PrintMore Go.Proofs.Ytcijanmckhlpiaa.PPaintClasses
set_option linter.unusedVariables false
set_option linter.unusedSimpArgs false
namespace Paint
theorem spansGo_len' (cls : Int → ByteArray) : ∀ (P : List Int) (out : List S72), (spansGo cls out P).length ≤ out.length + P.length
  | [], out => by simp [spansGo]
  | [_], out => by simp [spansGo]
  | a :: b :: r, out => by
    rw [spansGo]
    have h1 := spansGo_len' cls (b :: r) (stepS (cls a) out a b)
    have h2 := stepS_len (cls a) out a b
    simp only [List.length_cons] at h1 ⊢; omega
theorem GoodP.len' {t : List S76} {P : List Int} (h : GoodP t P) : P.length ≤ 2 * t.length + 1 := by
  have h1 : P.Nodup := h.up.imp fun {a b} (hab : a < b) => by omega
  have h2 : P ⊆ 0 :: plc t := fun x hx => by
    rcases (h.mem x).1 hx with e | e
    · simp [e]
    · simp [e.2]
  have h3 := h1.length_le_of_subset h2
  rw [List.length_cons, plc_len] at h3
  exact h3
set_option maxRecDepth 100000 in
set_option maxHeartbeats 4000000 in
theorem paintTiles_any (A : Option Addr) (c : Nat) (l : List PD) (B : Option Addr) (d : Nat) (t : List S76) (w : World) (hr : k99.C w A l.length l) (hz : l.length ≤ 1048576) (hrt : k76.C w B t.length t) (hd : t.length ≤ d) (hzt : t.length ≤ 1048576)
    (hsl : ∀ x ∈ l, x.1.size ≤ maxLen) (hkr : ∀ x ∈ t, x.f5 ≤ 9223372036854775807) (hst : ∀ x ∈ t, x.f0.size ≤ maxLen) (hpl : ∀ x ∈ t, (Lit.int .i64 x.f3).wf = true ∧ (Lit.int .i64 x.f4).wf = true) :
    Calls Try.prog 8 #[.slice A l.length c, .slice B t.length d] w fun e w' => e = .returned (.bool true) ∧ Below w.heap.size w w' := by
  have HR := Lib.hid hr
  have HRT := Lib.hid hrt
  obtain ⟨rb, hb⟩ := Beyond_ev hzt
  obtain ⟨kb, hkb⟩ := hb.rounds
  have HBY : Hid (∀ W, k76.C W B t.length t → Calls Try.prog 19 #[.slice B t.length d] W fun e w' => e = .returned (.bool rb) ∧ Below W.heap.size W w') := fun W h => trellisref15_Beyond.calls kb B d t rb W h hd hkb
  have HLA : Hid (∀ W, k99.C W A l.length l → Calls Try.prog 22 #[.slice A l.length c] W fun e w' => ∃ A' c', e = .returned (LG (.slice A' l.length c')) ∧ l.length ≤ c' ∧ k99.C w' A' l.length l ∧ Below W.heap.size W w') := fun W h => lang_any A c l W h (by omega)
  have HSP : Hid (∀ W A' c', k99.C W A' l.length l → k76.C W B t.length t → Calls Try.prog 27 #[LG (.slice A' l.length c'), .slice B t.length d] W fun e w' => ∃ s As cs, (s.length ≤ 4194304 ∧ (∀ (k : Nat) (x : S72), s[k]? = some x → Tile l t x) ∧ ∀ (k : Nat) (x y : S72), s[k]? = some x → s[k + 1]? = some y → x.f1 ≤ y.f0 ∧ (x.f1 = y.f0 → x.f2 ≠ y.f2)) ∧ e = .returned (.slice As s.length cs) ∧ s.length ≤ cs ∧ k72.C w' As s.length s ∧ Below W.heap.size W w') := fun W A' c' h1 h2 => (spans_any A' c' l B d t W h1 hz h2 hd hzt hsl hkr hst hpl).mono (by
    rintro e w' ⟨P, v, hg, rfl, h4, h5⟩
    obtain ⟨As, cs, rfl, h6, h7⟩ := Kd.R_reads h4
    refine ⟨spansS l t P, As, cs, ⟨?_, tiles hg⟩, rfl, h6, h7, h5⟩
    have h1 := hg.len'
    have h2 := spansGo_len' (classAll l t) P []
    show (spansGo (classAll l t) [] P).length ≤ _
    simp only [List.length_nil] at h2; omega)
  have HCL : Hid (∀ W A' c' a, k99.C W A' l.length l → k76.C W B t.length t → Calls Try.prog 21 #[LG (.slice A' l.length c'), .slice B t.length d, .int .i64 a] W fun e w' => e = .returned (.string (classAll l t a)) ∧ Below W.heap.size W w') := fun W A' c' a h1 h2 => Class_any A' c' l B d t a W h1 hz h2 hd hzt hsl hkr hst
  have HWF : Hid (∀ p ∈ plc t, p ≤ 9223372036854775807) := fun p hp => by
    unfold plc at hp
    rw [List.mem_flatMap] at hp
    obtain ⟨x, hx, hp⟩ := hp
    have h1 := (bounds_i64 (hpl x hx).1).2
    have h2 := (bounds_i64 (hpl x hx).2).2
    simp at hp
    rcases hp with rfl | rfl
    · exact h1
    · exact h2
  clear hr hrt hkb hsl hkr hst hb hpl
  go_enter Try.func8, Try.ntmps8
  have tok : True := trivial
  go_wp2_with fail
  refine (awake_any w).mono ?_
  rintro e W1 ⟨rfl, hbel⟩
  have HB1 := Lib.hid hbel
  clear hbel
  go_wp2_with fail
  refine (HBY.out W1 (Kd.C_below HRT.out HB1.out)).mono ?_
  rintro e W2 ⟨rfl, hbel⟩
  have HB2 := Lib.hid (below_step HB1.out hbel)
  clear hbel HB1 HBY
  cases rb with
  | true =>
    go_wp2_with fail
    go_ret
    exact ⟨rfl, HB2.out⟩
  | false =>
    go_wp2_with fail
    refine (HLA.out W2 (Kd.C_below HR.out HB2.out)).mono ?_
    rintro e W3 ⟨A2, c2, rfl, hc2, hC2, hbel⟩
    unfold LG at *
    have HC2 := Lib.hid (Kd.C_alloc hC2 (.cells #[.string ⟨#[]⟩, .slice none 0 0, .slice none 0 0, .slice none 0 0, .slice none 0 0, .slice none 0 0, .slice none 0 0, .slice none 0 0, .slice A2 l.length c2, .slice none 0 0, .slice none 0 0, .slice none 0 0] 60))
    have HB3 := Lib.hid (below_alloc (below_step HB2.out hbel) (.cells #[.string ⟨#[]⟩, .slice none 0 0, .slice none 0 0, .slice none 0 0, .slice none 0 0, .slice none 0 0, .slice none 0 0, .slice none 0 0, .slice A2 l.length c2, .slice none 0 0, .slice none 0 0, .slice none 0 0] 60))
    have HX3 := Lib.hid (blk_new W3 (.cells #[.string ⟨#[]⟩, .slice none 0 0, .slice none 0 0, .slice none 0 0, .slice none 0 0, .slice none 0 0, .slice none 0 0, .slice none 0 0, .slice A2 l.length c2, .slice none 0 0, .slice none 0 0, .slice none 0 0] 60))
    clear hC2 hbel HLA HB2
    have hx0 := blk_cell HX3.out 0
    have hx1 := blk_cell HX3.out 1
    have hx2 := blk_cell HX3.out 2
    have hx3 := blk_cell HX3.out 3
    have hx4 := blk_cell HX3.out 4
    have hx5 := blk_cell HX3.out 5
    have hx6 := blk_cell HX3.out 6
    have hx7 := blk_cell HX3.out 7
    have hx8 := blk_cell HX3.out 8
    have hx9 := blk_cell HX3.out 9
    have hx10 := blk_cell HX3.out 10
    have hx11 := blk_cell HX3.out 11
    go_wp2_with fail
    clear hx0 hx1 hx2 hx3 hx4 hx5 hx6 hx7 hx8 hx9 hx10 hx11
    generalize W3.alloc (.cells #[.string ⟨#[]⟩, .slice none 0 0, .slice none 0 0, .slice none 0 0, .slice none 0 0, .slice none 0 0, .slice none 0 0, .slice none 0 0, .slice A2 l.length c2, .slice none 0 0, .slice none 0 0, .slice none 0 0] 60) = W4 at *
    refine (HSP.out W4 A2 c2 HC2.out (Kd.C_below HRT.out HB3.out)).mono ?_
    rintro e W5 ⟨s, As, cs, ⟨hsl, hti, hor⟩, rfl, hcs, hCs, hbel⟩
    have HTI := Lib.hid hti
    have HOR := Lib.hid hor
    have HCS := Lib.hid hCs
    have HX5 := Lib.hid (blk_below HX3.out hbel)
    have HB5 := Lib.hid (below_step HB3.out hbel)
    have HCA5 := Lib.hid (Kd.C_below HC2.out hbel)
    have HCT5 := Lib.hid (Kd.C_below HRT.out HB5.out)
    clear hti hor hCs hbel HX3 HB3 HC2 HRT HR HSP
    go_wp2_with fail
    go_loopw [7] (fun v w' => ∃ i : Nat, v = .int .i64 (i : Int) ∧ i ≤ s.length ∧ Hid (Below W5.heap.size W5 w')) (fun v _ => s.length - (intOf v).toNat)
    case atStart => exact ⟨0, rfl, Nat.zero_le _, Below.refl _ _⟩
    case round =>
      obtain ⟨i, rfl, hi, HW⟩ := hrel
      by_cases hil : i < s.length
      · have hib : decide ((i : Int) < (s.length : Int)) = true := decide_eq_true (by omega)
        have hxi : s[i]? = some s[i] := List.getElem?_eq_getElem hil
        have hT := HTI.out i _ hxi
        obtain ⟨ad, rfl, g0, g1, g2⟩ := at_T72 (Kd.C_below HCS.out HW.out) (i : Int) (by omega) (by omega)
        rw [rd72_get hxi, Int.toNat_natCast] at g0 g1 g2
        generalize hxx : s[i] = x at *
        have hi0 : (0 : Int) ≤ (i : Int) := Int.natCast_nonneg _
        have hi1 : (i : Int) < (s.length : Int) := by omega
        have hzw : IntKind.i64.wrap ((i : Int) + 1) = (i : Int) + 1 := IntWalk.i64_in _ (by omega)
        have HXX := Lib.hid (blk_new wr (.cells #[.int .i64 x.f0, .int .i64 x.f1, .string x.f2] 72))
        have HWa := Lib.hid (below_alloc HW.out (.cells #[.int .i64 x.f0, .int .i64 x.f1, .string x.f2] 72))
        go_wp2_with fail
        have HTL := Lib.hid hT
        have HG0 := Lib.hid hxi
        clear g0 g1 g2 hT hxi hxx
        generalize hXX : wr.alloc (.cells #[.int .i64 x.f0, .int .i64 x.f1, .string x.f2] 72) = X at *
        have hbx : wr.heap.size < X.heap.size := by rw [← hXX, World.size_alloc]; omega
        clear hXX
        have y0 : X.cell? ⟨wr.heap.size, 0, none⟩ = some (.int .i64 x.f0) := blk_cell HXX.out 0
        have y1 : X.cell? ⟨wr.heap.size, 1, none⟩ = some (.int .i64 x.f1) := blk_cell HXX.out 1
        have y2 : X.cell? ⟨wr.heap.size, 2, none⟩ = some (.string x.f2) := blk_cell HXX.out 2
        have d1 : decide (x.f0 < 0) = false := decide_eq_false (by have := HTL.out.lo; omega)
        have d2 : decide (x.f1 ≤ x.f0) = false := decide_eq_false (by have := HTL.out.lt; omega)
        have d3 : x.f2.toList.isEmpty = false := by
          rw [← emp_eq]
          cases h9 : (x.f2.toList == (⟨#[]⟩ : ByteArray).toList) with
          | false => rfl
          | true => exact absurd (str_eq.1 h9) HTL.out.ne
        go_cut [80] from 29 to 80 (fun v wx => v = .bool false ∧ ∃ n, wx = X.drewN n)
        case first =>
          cases i with
          | zero =>
            go_quiet (fail)
            go_wp2_with fail
            go_meet
            case rel => exact ⟨rfl, _, rfl⟩
          | succ k =>
            have hkl : k < s.length := by omega
            have hyi : s[k]? = some s[k] := List.getElem?_eq_getElem hkl
            have ho := HOR.out k _ _ hyi HG0.out
            obtain ⟨ad2, e2, _, g1, g2⟩ := at_T72 (Kd.C_below HCS.out HWa.out) (k : Int) (by omega) (by omega)
            injection e2 with e2
            subst e2
            rw [rd72_get hyi, Int.toNat_natCast] at g1 g2
            generalize s[k] = y at *
            have hkw : IntKind.i64.wrap ((k : Int) + 1 - 1) = (k : Int) := by rw [Int.add_sub_cancel]; exact IntWalk.i64_in _ (by omega)
            have hk0 : (0 : Int) ≤ (k : Int) := Int.natCast_nonneg _
            have hk1 : (k : Int) < (s.length : Int) := by omega
            have hkp : (0 : Int) < (k : Int) + 1 := by omega
            have d4 : decide (x.f0 < y.f1) = false := decide_eq_false (by have := ho.1; omega)
            by_cases he : x.f0 = y.f1
            · have d5 : (x.f0 == y.f1) = true := by simpa using he
              have d6 : (x.f2.toList == y.f2.toList) = false := by
                cases h9 : (x.f2.toList == y.f2.toList) with
                | false => rfl
                | true => exact absurd (str_eq.1 h9).symm (ho.2 he.symm)
              clear he hyi ho
              go_quiet (fail)
              go_wp2_with fail
              go_meet
              case rel => exact ⟨rfl, _, rfl⟩
            · have d5 : (x.f0 == y.f1) = false := by simpa using he
              clear he hyi ho
              go_quiet (fail)
              go_wp2_with fail
              go_meet
              case rel => exact ⟨rfl, _, rfl⟩
        case rest =>
          obtain ⟨rfl, nq, rfl⟩ := hcut
          have HWy := Lib.hid (pw_below_drewN HWa.out nq)
          have HBy := Lib.hid (blk_drewN HXX.out nq)
          clear y0 y1 y2 d1 d2 d3 HXX HWa
          generalize X.drewN nq = Y at *
          have hxh : x.f1 ≤ 9223372036854775807 := HWF.out _ HTL.out.hi
          have hlo := HTL.out.lo
          have hlt := HTL.out.lt
          have m1 : IntKind.i64.wrap (x.f1 - x.f0) = x.f1 - x.f0 := IntWalk.i64_in _ (by omega)
          have y0 : Y.cell? ⟨wr.heap.size, 0, none⟩ = some (.int .i64 x.f0) := blk_cell HBy.out 0
          have y1 : Y.cell? ⟨wr.heap.size, 1, none⟩ = some (.int .i64 x.f1) := blk_cell HBy.out 1
          go_wp2_with fail
          have HIN : Hid (∀ W a, Below W5.heap.size W5 W → x.f0 ≤ a → a < x.f1 → Calls Try.prog 21 #[.agg #[.string ⟨#[]⟩, .slice none 0 0, .slice none 0 0, .slice none 0 0, .slice none 0 0, .slice none 0 0, .slice none 0 0, .slice none 0 0, .slice A2 l.length c2, .slice none 0 0, .slice none 0 0, .slice none 0 0], .slice B t.length d, .int .i64 a] W fun e w' => e = .returned (.string x.f2) ∧ Below W.heap.size W w') := fun W a h1 h2 h3 => by
            have h := HCL.out W A2 c2 a (Kd.C_below HCA5.out h1) (Kd.C_below HCT5.out h1)
            rw [HTL.out.all a h2 h3] at h
            exact h
          have HOUT : Hid (∀ W a, Below W5.heap.size W5 W → Calls Try.prog 21 #[.agg #[.string ⟨#[]⟩, .slice none 0 0, .slice none 0 0, .slice none 0 0, .slice none 0 0, .slice none 0 0, .slice none 0 0, .slice none 0 0, .slice A2 l.length c2, .slice none 0 0, .slice none 0 0, .slice none 0 0], .slice B t.length d, .int .i64 a] W fun e w' => e = .returned (.string (classAll l t a)) ∧ Below W.heap.size W w') := fun W a h1 => HCL.out W A2 c2 a (Kd.C_below HCA5.out h1) (Kd.C_below HCT5.out h1)
          have HBH := Lib.hid HTL.out.behind
          have HBF := Lib.hid HTL.out.before
          have hm0 : x.f0 ≤ x.f0 + (x.f1 - x.f0) / 2 := by omega
          have hm1 : x.f0 + (x.f1 - x.f0) / 2 < x.f1 := by omega
          generalize x.f0 + (x.f1 - x.f0) / 2 = m at *
          have m2 : IntKind.i64.wrap (x.f1 - 1) = x.f1 - 1 := IntWalk.i64_in _ (by omega)
          have m3 : IntKind.i64.wrap (x.f0 - 1) = x.f0 - 1 := IntWalk.i64_in _ (by omega)
          clear y0 y1 m1 HTL
          have HXY := Lib.hid (blk_below HX5.out HWy.out)
          refine start_ (n := 28) (S := fun w' => w'.cell? ⟨W3.heap.size, 0, none⟩ = some (.string ⟨#[]⟩) ∧ w'.cell? ⟨W3.heap.size, 1, none⟩ = some (.slice none 0 0) ∧ w'.cell? ⟨W3.heap.size, 2, none⟩ = some (.slice none 0 0) ∧ w'.cell? ⟨W3.heap.size, 3, none⟩ = some (.slice none 0 0) ∧ w'.cell? ⟨W3.heap.size, 4, none⟩ = some (.slice none 0 0) ∧ w'.cell? ⟨W3.heap.size, 5, none⟩ = some (.slice none 0 0) ∧ w'.cell? ⟨W3.heap.size, 6, none⟩ = some (.slice none 0 0) ∧ w'.cell? ⟨W3.heap.size, 7, none⟩ = some (.slice none 0 0) ∧ w'.cell? ⟨W3.heap.size, 8, none⟩ = some (.slice A2 l.length c2) ∧ w'.cell? ⟨W3.heap.size, 9, none⟩ = some (.slice none 0 0) ∧ w'.cell? ⟨W3.heap.size, 10, none⟩ = some (.slice none 0 0) ∧ w'.cell? ⟨W3.heap.size, 11, none⟩ = some (.slice none 0 0) ∧ w'.cell? ⟨wr.heap.size, 0, none⟩ = some (.int .i64 x.f0) ∧ w'.cell? ⟨wr.heap.size, 1, none⟩ = some (.int .i64 x.f1) ∧ w'.cell? ⟨wr.heap.size, 2, none⟩ = some (.string x.f2)) (ds := []) #[false, false, false, false, false, false, false, false, false, false, false, false, false, false, false, false, false, false, false, false, false, false, false, false, false, false, false, false] (by kernel_rfl) rfl rfl ⟨blk_cell HXY.out 0, blk_cell HXY.out 1, blk_cell HXY.out 2, blk_cell HXY.out 3, blk_cell HXY.out 4, blk_cell HXY.out 5, blk_cell HXY.out 6, blk_cell HXY.out 7, blk_cell HXY.out 8, blk_cell HXY.out 9, blk_cell HXY.out 10, blk_cell HXY.out 11, blk_cell HBy.out 0, blk_cell HBy.out 1, blk_cell HBy.out 2⟩ (fun hHeld => ?_)
          refine pure_ (i := 1) (N := some 91) (v := ?_) (a' := ?_) #[false, true, false, false, false, false, false, false, false, false, false, false, false, false, false, false, false, false, false, false, false, false, false, false, false, false, false, false] rfl rfl (by kernel_rfl) (fun _ _ _ h => h) (Or.inl ⟨by rfl, ?_⟩) ?_ ?_
          rotate_left
          · intro w'
            go_simp
            with_reducible rfl
          rotate_left
          · simp only [Act.put, List.setIfInBounds_toArray, List.set_cons_zero, List.set_cons_succ, i64_w, i32_w]
            rfl
          refine pure_ (i := 2) (N := some 92) (v := ?_) (a' := ?_) #[false, true, true, false, false, false, false, false, false, false, false, false, false, false, false, false, false, false, false, false, false, false, false, false, false, false, false, false] rfl rfl (by kernel_rfl) (fun _ _ _ h => h) (Or.inl ⟨by rfl, ?_⟩) ?_ ?_
          rotate_left
          · intro w'
            go_simp
            with_reducible rfl
          rotate_left
          · simp only [Act.put, List.setIfInBounds_toArray, List.set_cons_zero, List.set_cons_succ, i64_w, i32_w]
            rfl
          refine pure_ (i := 5) (N := some 95) (v := ?_) (a' := ?_) #[false, true, true, false, false, true, false, false, false, false, false, false, false, false, false, false, false, false, false, false, false, false, false, false, false, false, false, false] rfl rfl (by kernel_rfl) (fun _ _ _ h => h) (Or.inl ⟨by rfl, ?_⟩) ?_ ?_
          rotate_left
          · intro w'
            go_simp
            with_reducible rfl
          rotate_left
          · simp only [Act.put, List.setIfInBounds_toArray, List.set_cons_zero, List.set_cons_succ, i64_w, i32_w]
            rfl
          refine take_ (i := 0) (N := some 90) (v := ?_) (a' := ?_) #[true, true, true, false, false, true, false, false, false, false, false, false, false, false, false, false, false, false, false, false, false, false, false, false, false, false, false, false] rfl rfl (by kernel_rfl) (fun _ _ _ h => h) (Or.inl ⟨by rfl, ?_⟩) hHeld ?_ ?_
          rotate_left
          · rintro w' ⟨s0, s1, s2, s3, s4, s5, s6, s7, s8, s9, s10, s11, s12, s13, s14⟩
            go_simp
            with_reducible rfl
          rotate_left
          · simp only [Act.put, List.setIfInBounds_toArray, List.set_cons_zero, List.set_cons_succ, i64_w, i32_w]
            rfl
          refine take_ (i := 3) (N := some 93) (v := ?_) (a' := ?_) #[true, true, true, true, false, true, false, false, false, false, false, false, false, false, false, false, false, false, false, false, false, false, false, false, false, false, false, false] rfl rfl (by kernel_rfl) (fun _ _ _ h => h) (Or.inl ⟨by rfl, ?_⟩) hHeld ?_ ?_
          rotate_left
          · rintro w' ⟨s0, s1, s2, s3, s4, s5, s6, s7, s8, s9, s10, s11, s12, s13, s14⟩
            go_simp
            with_reducible rfl
          rotate_left
          · simp only [Act.put, List.setIfInBounds_toArray, List.set_cons_zero, List.set_cons_succ, i64_w, i32_w]
            rfl
          refine take_ (i := 6) (N := some 96) (v := ?_) (a' := ?_) #[true, true, true, true, false, true, true, false, false, false, false, false, false, false, false, false, false, false, false, false, false, false, false, false, false, false, false, false] rfl rfl (by kernel_rfl) (fun _ _ _ h => h) (Or.inl ⟨by rfl, ?_⟩) hHeld ?_ ?_
          rotate_left
          · rintro w' ⟨s0, s1, s2, s3, s4, s5, s6, s7, s8, s9, s10, s11, s12, s13, s14⟩
            go_simp
            with_reducible rfl
          rotate_left
          · simp only [Act.put, List.setIfInBounds_toArray, List.set_cons_zero, List.set_cons_succ, i64_w, i32_w]
            rfl
          refine one_ (i := 4) (N := some 94) #[true, true, true, true, true, true, true, false, false, false, false, false, false, false, false, false, false, false, false, false, false, false, false, false, false, false, false, false] rfl rfl (by kernel_rfl) (by decide) (fun K hK => ?_)
          refine goes_ Try.func21 (by kernel_rfl) rfl #[.agg #[.string ⟨#[]⟩, .slice none 0 0, .slice none 0 0, .slice none 0 0, .slice none 0 0, .slice none 0 0, .slice none 0 0, .slice none 0 0, .slice A2 l.length c2, .slice none 0 0, .slice none 0 0, .slice none 0 0], .slice B t.length d, .int .i64 x.f0] (by rfl) rfl rfl (by simp only [List.map_toArray, List.map_cons, List.map_nil]; rfl) ?_
          with_reducible refine ((HIN.out Y.drew x.f0 HWy.out.drew (Int.le_refl _) hlt)).mono ?_
          rintro e V1 ⟨rfl, hbel⟩
          refine ⟨_, rfl, ?_⟩
          have HWV1 := Lib.hid (below_step HWy.out.drew hbel)
          have HXV1 := Lib.hid (blk_below HX5.out HWV1.out)
          have HBV1 := Lib.hid (blk_below (show Y.drew.heap[wr.heap.size]? = _ from HBy.out) hbel)
          clear hbel
          refine hK.out _ _ ⟨blk_cell HXV1.out 0, blk_cell HXV1.out 1, blk_cell HXV1.out 2, blk_cell HXV1.out 3, blk_cell HXV1.out 4, blk_cell HXV1.out 5, blk_cell HXV1.out 6, blk_cell HXV1.out 7, blk_cell HXV1.out 8, blk_cell HXV1.out 9, blk_cell HXV1.out 10, blk_cell HXV1.out 11, blk_cell HBV1.out 0, blk_cell HBV1.out 1, blk_cell HBV1.out 2⟩ (fun hHeld => ?_)
          clear hK K
          refine norm_ (a' := ?_) ?_ ?_
          rotate_left
          · show Act.put _ (some 94) _ = _
            simp only [Act.put, List.setIfInBounds_toArray, List.set_cons_zero, List.set_cons_succ, i64_w, i32_w]
            rfl
          refine pure_ (i := 7) (N := some 97) (v := ?_) (a' := ?_) #[true, true, true, true, true, true, true, true, false, false, false, false, false, false, false, false, false, false, false, false, false, false, false, false, false, false, false, false] rfl rfl (by kernel_rfl) (fun _ _ _ h => h) (Or.inl ⟨by rfl, ?_⟩) ?_ ?_
          rotate_left
          · intro w'
            go_simp
            with_reducible rfl
          rotate_left
          · simp only [Act.put, List.setIfInBounds_toArray, List.set_cons_zero, List.set_cons_succ, i64_w, i32_w]
            rfl
          refine pure_ (i := 8) (N := some 98) (v := ?_) (a' := ?_) #[true, true, true, true, true, true, true, true, true, false, false, false, false, false, false, false, false, false, false, false, false, false, false, false, false, false, false, false] rfl rfl (by kernel_rfl) (fun _ _ _ h => h) (Or.inl ⟨by rfl, ?_⟩) ?_ ?_
          rotate_left
          · intro w'
            go_simp
            with_reducible rfl
          rotate_left
          · simp only [Act.put, List.setIfInBounds_toArray, List.set_cons_zero, List.set_cons_succ, i64_w, i32_w]
            rfl
          refine pure_ (i := 10) (N := some 100) (v := ?_) (a' := ?_) #[true, true, true, true, true, true, true, true, true, false, true, false, false, false, false, false, false, false, false, false, false, false, false, false, false, false, false, false] rfl rfl (by kernel_rfl) (fun _ _ _ h => h) (Or.inl ⟨by rfl, ?_⟩) ?_ ?_
          rotate_left
          · intro w'
            go_simp
            with_reducible rfl
          rotate_left
          · simp only [Act.put, List.setIfInBounds_toArray, List.set_cons_zero, List.set_cons_succ, i64_w, i32_w]
            rfl
          refine pure_ (i := 11) (N := some 101) (v := ?_) (a' := ?_) #[true, true, true, true, true, true, true, true, true, false, true, true, false, false, false, false, false, false, false, false, false, false, false, false, false, false, false, false] rfl rfl (by kernel_rfl) (fun _ _ _ h => h) (Or.inl ⟨by rfl, ?_⟩) ?_ ?_
          rotate_left
          · intro w'
            go_simp
            with_reducible rfl
          rotate_left
          · simp only [Act.put, List.setIfInBounds_toArray, List.set_cons_zero, List.set_cons_succ, i64_w, i32_w]
            rfl
          refine pure_ (i := 13) (N := some 103) (v := ?_) (a' := ?_) #[true, true, true, true, true, true, true, true, true, false, true, true, false, true, false, false, false, false, false, false, false, false, false, false, false, false, false, false] rfl rfl (by kernel_rfl) (fun _ _ _ h => h) (Or.inl ⟨by rfl, ?_⟩) ?_ ?_
          rotate_left
          · intro w'
            go_simp
            with_reducible rfl
          rotate_left
          · simp only [Act.put, List.setIfInBounds_toArray, List.set_cons_zero, List.set_cons_succ, i64_w, i32_w]
            rfl
          refine take_ (i := 9) (N := some 99) (v := ?_) (a' := ?_) #[true, true, true, true, true, true, true, true, true, true, true, true, false, true, false, false, false, false, false, false, false, false, false, false, false, false, false, false] rfl rfl (by kernel_rfl) (fun _ _ _ h => h) (Or.inl ⟨by rfl, ?_⟩) hHeld ?_ ?_
          rotate_left
          · rintro w' ⟨s0, s1, s2, s3, s4, s5, s6, s7, s8, s9, s10, s11, s12, s13, s14⟩
            go_simp
            with_reducible rfl
          rotate_left
          · simp only [Act.put, List.setIfInBounds_toArray, List.set_cons_zero, List.set_cons_succ, i64_w, i32_w]
            rfl
          refine take_ (i := 14) (N := some 104) (v := ?_) (a' := ?_) #[true, true, true, true, true, true, true, true, true, true, true, true, false, true, true, false, false, false, false, false, false, false, false, false, false, false, false, false] rfl rfl (by kernel_rfl) (fun _ _ _ h => h) (Or.inl ⟨by rfl, ?_⟩) hHeld ?_ ?_
          rotate_left
          · rintro w' ⟨s0, s1, s2, s3, s4, s5, s6, s7, s8, s9, s10, s11, s12, s13, s14⟩
            go_simp
            with_reducible rfl
          rotate_left
          · simp only [Act.put, List.setIfInBounds_toArray, List.set_cons_zero, List.set_cons_succ, i64_w, i32_w]
            rfl
          refine one_ (i := 12) (N := some 102) #[true, true, true, true, true, true, true, true, true, true, true, true, true, true, true, false, false, false, false, false, false, false, false, false, false, false, false, false] rfl rfl (by kernel_rfl) (by decide) (fun K hK => ?_)
          refine goes_ Try.func21 (by kernel_rfl) rfl #[.agg #[.string ⟨#[]⟩, .slice none 0 0, .slice none 0 0, .slice none 0 0, .slice none 0 0, .slice none 0 0, .slice none 0 0, .slice none 0 0, .slice A2 l.length c2, .slice none 0 0, .slice none 0 0, .slice none 0 0], .slice B t.length d, .int .i64 m] (by rfl) rfl rfl (by simp only [List.map_toArray, List.map_cons, List.map_nil]; rfl) ?_
          with_reducible refine ((HIN.out V1 m HWV1.out hm0 hm1)).mono ?_
          rintro e V2 ⟨rfl, hbel⟩
          refine ⟨_, rfl, ?_⟩
          have HWV2 := Lib.hid (below_step HWV1.out hbel)
          have HXV2 := Lib.hid (blk_below HX5.out HWV2.out)
          have HBV2 := Lib.hid (blk_below (show V1.heap[wr.heap.size]? = _ from HBV1.out) hbel)
          clear hbel
          refine hK.out _ _ ⟨blk_cell HXV2.out 0, blk_cell HXV2.out 1, blk_cell HXV2.out 2, blk_cell HXV2.out 3, blk_cell HXV2.out 4, blk_cell HXV2.out 5, blk_cell HXV2.out 6, blk_cell HXV2.out 7, blk_cell HXV2.out 8, blk_cell HXV2.out 9, blk_cell HXV2.out 10, blk_cell HXV2.out 11, blk_cell HBV2.out 0, blk_cell HBV2.out 1, blk_cell HBV2.out 2⟩ (fun hHeld => ?_)
          clear hK K
          refine norm_ (a' := ?_) ?_ ?_
          rotate_left
          · show Act.put _ (some 102) _ = _
            simp only [Act.put, List.setIfInBounds_toArray, List.set_cons_zero, List.set_cons_succ, i64_w, i32_w]
            rfl
          refine pure_ (i := 15) (N := some 105) (v := ?_) (a' := ?_) #[true, true, true, true, true, true, true, true, true, true, true, true, true, true, true, true, false, false, false, false, false, false, false, false, false, false, false, false] rfl rfl (by kernel_rfl) (fun _ _ _ h => h) (Or.inl ⟨by rfl, ?_⟩) ?_ ?_
          rotate_left
          · intro w'
            go_simp
            with_reducible rfl
          rotate_left
          · simp only [Act.put, List.setIfInBounds_toArray, List.set_cons_zero, List.set_cons_succ, i64_w, i32_w]
            rfl
          refine pure_ (i := 16) (N := some 106) (v := ?_) (a' := ?_) #[true, true, true, true, true, true, true, true, true, true, true, true, true, true, true, true, true, false, false, false, false, false, false, false, false, false, false, false] rfl rfl (by kernel_rfl) (fun _ _ _ h => h) (Or.inl ⟨by rfl, ?_⟩) ?_ ?_
          rotate_left
          · intro w'
            go_simp
            with_reducible rfl
          rotate_left
          · simp only [Act.put, List.setIfInBounds_toArray, List.set_cons_zero, List.set_cons_succ, i64_w, i32_w]
            rfl
          refine pure_ (i := 17) (N := some 107) (v := ?_) (a' := ?_) #[true, true, true, true, true, true, true, true, true, true, true, true, true, true, true, true, true, true, false, false, false, false, false, false, false, false, false, false] rfl rfl (by kernel_rfl) (fun _ _ _ h => h) (Or.inl ⟨by rfl, ?_⟩) ?_ ?_
          rotate_left
          · intro w'
            go_simp
            with_reducible rfl
          rotate_left
          · simp only [Act.put, List.setIfInBounds_toArray, List.set_cons_zero, List.set_cons_succ, i64_w, i32_w]
            rfl
          refine pure_ (i := 19) (N := some 109) (v := ?_) (a' := ?_) #[true, true, true, true, true, true, true, true, true, true, true, true, true, true, true, true, true, true, false, true, false, false, false, false, false, false, false, false] rfl rfl (by kernel_rfl) (fun _ _ _ h => h) (Or.inl ⟨by rfl, ?_⟩) ?_ ?_
          rotate_left
          · intro w'
            go_simp
            with_reducible rfl
          rotate_left
          · simp only [Act.put, List.setIfInBounds_toArray, List.set_cons_zero, List.set_cons_succ, i64_w, i32_w]
            rfl
          refine pure_ (i := 20) (N := some 110) (v := ?_) (a' := ?_) #[true, true, true, true, true, true, true, true, true, true, true, true, true, true, true, true, true, true, false, true, true, false, false, false, false, false, false, false] rfl rfl (by kernel_rfl) (fun _ _ _ h => h) (Or.inl ⟨by rfl, ?_⟩) ?_ ?_
          rotate_left
          · intro w'
            go_simp
            with_reducible rfl
          rotate_left
          · simp only [Act.put, List.setIfInBounds_toArray, List.set_cons_zero, List.set_cons_succ, i64_w, i32_w]
            rfl
          refine pure_ (i := 24) (N := some 114) (v := ?_) (a' := ?_) #[true, true, true, true, true, true, true, true, true, true, true, true, true, true, true, true, true, true, false, true, true, false, false, false, true, false, false, false] rfl rfl (by kernel_rfl) (fun _ _ _ h => h) (Or.inl ⟨by rfl, ?_⟩) ?_ ?_
          rotate_left
          · intro w'
            go_simp
            with_reducible rfl
          rotate_left
          · simp only [Act.put, List.setIfInBounds_toArray, List.set_cons_zero, List.set_cons_succ, i64_w, i32_w]
            rfl
          refine take_ (i := 18) (N := some 108) (v := ?_) (a' := ?_) #[true, true, true, true, true, true, true, true, true, true, true, true, true, true, true, true, true, true, true, true, true, false, false, false, true, false, false, false] rfl rfl (by kernel_rfl) (fun _ _ _ h => h) (Or.inl ⟨by rfl, ?_⟩) hHeld ?_ ?_
          rotate_left
          · rintro w' ⟨s0, s1, s2, s3, s4, s5, s6, s7, s8, s9, s10, s11, s12, s13, s14⟩
            go_simp
            with_reducible rfl
          rotate_left
          · simp only [Act.put, List.setIfInBounds_toArray, List.set_cons_zero, List.set_cons_succ, i64_w, i32_w]
            rfl
          refine take_ (i := 21) (N := some 111) (v := ?_) (a' := ?_) #[true, true, true, true, true, true, true, true, true, true, true, true, true, true, true, true, true, true, true, true, true, true, false, false, true, false, false, false] rfl rfl (by kernel_rfl) (fun _ _ _ h => h) (Or.inl ⟨by rfl, ?_⟩) hHeld ?_ ?_
          rotate_left
          · rintro w' ⟨s0, s1, s2, s3, s4, s5, s6, s7, s8, s9, s10, s11, s12, s13, s14⟩
            go_simp
            with_reducible rfl
          rotate_left
          · simp only [Act.put, List.setIfInBounds_toArray, List.set_cons_zero, List.set_cons_succ, i64_w, i32_w]
            rfl
          refine pure_ (i := 22) (N := some 112) (v := ?_) (a' := ?_) #[true, true, true, true, true, true, true, true, true, true, true, true, true, true, true, true, true, true, true, true, true, true, true, false, true, false, false, false] rfl rfl (by kernel_rfl) (fun _ _ _ h => h) (Or.inl ⟨by rfl, ?_⟩) ?_ ?_
          rotate_left
          · intro w'
            go_simp
            with_reducible rfl
          rotate_left
          · simp only [Act.put, List.setIfInBounds_toArray, List.set_cons_zero, List.set_cons_succ, i64_w, i32_w]
            rfl
          refine take_ (i := 25) (N := some 115) (v := ?_) (a' := ?_) #[true, true, true, true, true, true, true, true, true, true, true, true, true, true, true, true, true, true, true, true, true, true, true, false, true, true, false, false] rfl rfl (by kernel_rfl) (fun _ _ _ h => h) (Or.inl ⟨by rfl, ?_⟩) hHeld ?_ ?_
          rotate_left
          · rintro w' ⟨s0, s1, s2, s3, s4, s5, s6, s7, s8, s9, s10, s11, s12, s13, s14⟩
            go_simp
            with_reducible rfl
          rotate_left
          · simp only [Act.put, List.setIfInBounds_toArray, List.set_cons_zero, List.set_cons_succ, i64_w, i32_w]
            rfl
          refine one_ (i := 23) (N := some 113) #[true, true, true, true, true, true, true, true, true, true, true, true, true, true, true, true, true, true, true, true, true, true, true, true, true, true, false, false] rfl rfl (by kernel_rfl) (by decide) (fun K hK => ?_)
          refine goes_ Try.func21 (by kernel_rfl) rfl #[.agg #[.string ⟨#[]⟩, .slice none 0 0, .slice none 0 0, .slice none 0 0, .slice none 0 0, .slice none 0 0, .slice none 0 0, .slice none 0 0, .slice A2 l.length c2, .slice none 0 0, .slice none 0 0, .slice none 0 0], .slice B t.length d, .int .i64 (x.f1 - 1)] (by rfl) rfl rfl (by simp only [List.map_toArray, List.map_cons, List.map_nil]; rfl) ?_
          with_reducible refine ((HIN.out V2 (x.f1 - 1) HWV2.out (by omega) (by omega))).mono ?_
          rintro e V3 ⟨rfl, hbel⟩
          refine ⟨_, rfl, ?_⟩
          have HWV3 := Lib.hid (below_step HWV2.out hbel)
          have HXV3 := Lib.hid (blk_below HX5.out HWV3.out)
          have HBV3 := Lib.hid (blk_below (show V2.heap[wr.heap.size]? = _ from HBV2.out) hbel)
          clear hbel
          refine hK.out _ _ ⟨blk_cell HXV3.out 0, blk_cell HXV3.out 1, blk_cell HXV3.out 2, blk_cell HXV3.out 3, blk_cell HXV3.out 4, blk_cell HXV3.out 5, blk_cell HXV3.out 6, blk_cell HXV3.out 7, blk_cell HXV3.out 8, blk_cell HXV3.out 9, blk_cell HXV3.out 10, blk_cell HXV3.out 11, blk_cell HBV3.out 0, blk_cell HBV3.out 1, blk_cell HBV3.out 2⟩ (fun hHeld => ?_)
          clear hK K
          refine norm_ (a' := ?_) ?_ ?_
          rotate_left
          · show Act.put _ (some 113) _ = _
            simp only [Act.put, List.setIfInBounds_toArray, List.set_cons_zero, List.set_cons_succ, i64_w, i32_w]
            rfl
          refine pure_ (i := 26) (N := some 116) (v := ?_) (a' := ?_) #[true, true, true, true, true, true, true, true, true, true, true, true, true, true, true, true, true, true, true, true, true, true, true, true, true, true, true, false] rfl rfl (by kernel_rfl) (fun _ _ _ h => h) (Or.inl ⟨by rfl, ?_⟩) ?_ ?_
          rotate_left
          · intro w'
            go_simp
            with_reducible rfl
          rotate_left
          · simp only [Act.put, List.setIfInBounds_toArray, List.set_cons_zero, List.set_cons_succ, i64_w, i32_w]
            rfl
          refine pure_ (i := 27) (N := some 117) (v := ?_) (a' := ?_) #[true, true, true, true, true, true, true, true, true, true, true, true, true, true, true, true, true, true, true, true, true, true, true, true, true, true, true, true] rfl rfl (by kernel_rfl) (fun _ _ _ h => h) (Or.inl ⟨by rfl, ?_⟩) ?_ ?_
          rotate_left
          · intro w'
            go_simp
            with_reducible rfl
          rotate_left
          · simp only [Act.put, List.setIfInBounds_toArray, List.set_cons_zero, List.set_cons_succ, i64_w, i32_w]
            rfl
          refine done_ (by kernel_rfl) ?_
          go_wp2_with fail
          have d7 : ((classAll l t x.f1).toList == x.f2.toList) = false := by
            cases h9 : ((classAll l t x.f1).toList == x.f2.toList) with
            | false => rfl
            | true => exact absurd (str_eq.1 h9) HBH.out
          by_cases hpos : 0 < x.f0
          · have d8 : decide (0 < x.f0) = true := decide_eq_true hpos
            have d9 : ((classAll l t (x.f0 - 1)).toList == x.f2.toList) = false := by
              cases h9 : ((classAll l t (x.f0 - 1)).toList == x.f2.toList) with
              | false => rfl
              | true => exact absurd (str_eq.1 h9) (HBF.out hpos)
            refine start_ (n := 24) (S := fun w' => w'.cell? ⟨W3.heap.size, 0, none⟩ = some (.string ⟨#[]⟩) ∧ w'.cell? ⟨W3.heap.size, 1, none⟩ = some (.slice none 0 0) ∧ w'.cell? ⟨W3.heap.size, 2, none⟩ = some (.slice none 0 0) ∧ w'.cell? ⟨W3.heap.size, 3, none⟩ = some (.slice none 0 0) ∧ w'.cell? ⟨W3.heap.size, 4, none⟩ = some (.slice none 0 0) ∧ w'.cell? ⟨W3.heap.size, 5, none⟩ = some (.slice none 0 0) ∧ w'.cell? ⟨W3.heap.size, 6, none⟩ = some (.slice none 0 0) ∧ w'.cell? ⟨W3.heap.size, 7, none⟩ = some (.slice none 0 0) ∧ w'.cell? ⟨W3.heap.size, 8, none⟩ = some (.slice A2 l.length c2) ∧ w'.cell? ⟨W3.heap.size, 9, none⟩ = some (.slice none 0 0) ∧ w'.cell? ⟨W3.heap.size, 10, none⟩ = some (.slice none 0 0) ∧ w'.cell? ⟨W3.heap.size, 11, none⟩ = some (.slice none 0 0) ∧ w'.cell? ⟨wr.heap.size, 0, none⟩ = some (.int .i64 x.f0) ∧ w'.cell? ⟨wr.heap.size, 1, none⟩ = some (.int .i64 x.f1) ∧ w'.cell? ⟨wr.heap.size, 2, none⟩ = some (.string x.f2)) (ds := []) #[false, false, false, false, false, false, false, false, false, false, false, false, false, false, false, false, false, false, false, false, false, false, false, false] (by kernel_rfl) rfl rfl ⟨blk_cell HXV3.out 0, blk_cell HXV3.out 1, blk_cell HXV3.out 2, blk_cell HXV3.out 3, blk_cell HXV3.out 4, blk_cell HXV3.out 5, blk_cell HXV3.out 6, blk_cell HXV3.out 7, blk_cell HXV3.out 8, blk_cell HXV3.out 9, blk_cell HXV3.out 10, blk_cell HXV3.out 11, blk_cell HBV3.out 0, blk_cell HBV3.out 1, blk_cell HBV3.out 2⟩ (fun hHeld => ?_)
            refine pure_ (i := 1) (N := some 119) (v := ?_) (a' := ?_) #[false, true, false, false, false, false, false, false, false, false, false, false, false, false, false, false, false, false, false, false, false, false, false, false] rfl rfl (by kernel_rfl) (fun _ _ _ h => h) (Or.inl ⟨by rfl, ?_⟩) ?_ ?_
            rotate_left
            · intro w'
              go_simp
              with_reducible rfl
            rotate_left
            · simp only [Act.put, List.setIfInBounds_toArray, List.set_cons_zero, List.set_cons_succ, i64_w, i32_w]
              rfl
            refine pure_ (i := 2) (N := some 120) (v := ?_) (a' := ?_) #[false, true, true, false, false, false, false, false, false, false, false, false, false, false, false, false, false, false, false, false, false, false, false, false] rfl rfl (by kernel_rfl) (fun _ _ _ h => h) (Or.inl ⟨by rfl, ?_⟩) ?_ ?_
            rotate_left
            · intro w'
              go_simp
              with_reducible rfl
            rotate_left
            · simp only [Act.put, List.setIfInBounds_toArray, List.set_cons_zero, List.set_cons_succ, i64_w, i32_w]
              rfl
            refine pure_ (i := 5) (N := some 123) (v := ?_) (a' := ?_) #[false, true, true, false, false, true, false, false, false, false, false, false, false, false, false, false, false, false, false, false, false, false, false, false] rfl rfl (by kernel_rfl) (fun _ _ _ h => h) (Or.inl ⟨by rfl, ?_⟩) ?_ ?_
            rotate_left
            · intro w'
              go_simp
              with_reducible rfl
            rotate_left
            · simp only [Act.put, List.setIfInBounds_toArray, List.set_cons_zero, List.set_cons_succ, i64_w, i32_w]
              rfl
            refine take_ (i := 0) (N := some 118) (v := ?_) (a' := ?_) #[true, true, true, false, false, true, false, false, false, false, false, false, false, false, false, false, false, false, false, false, false, false, false, false] rfl rfl (by kernel_rfl) (fun _ _ _ h => h) (Or.inl ⟨by rfl, ?_⟩) hHeld ?_ ?_
            rotate_left
            · rintro w' ⟨s0, s1, s2, s3, s4, s5, s6, s7, s8, s9, s10, s11, s12, s13, s14⟩
              go_simp
              with_reducible rfl
            rotate_left
            · simp only [Act.put, List.setIfInBounds_toArray, List.set_cons_zero, List.set_cons_succ, i64_w, i32_w]
              rfl
            refine take_ (i := 3) (N := some 121) (v := ?_) (a' := ?_) #[true, true, true, true, false, true, false, false, false, false, false, false, false, false, false, false, false, false, false, false, false, false, false, false] rfl rfl (by kernel_rfl) (fun _ _ _ h => h) (Or.inl ⟨by rfl, ?_⟩) hHeld ?_ ?_
            rotate_left
            · rintro w' ⟨s0, s1, s2, s3, s4, s5, s6, s7, s8, s9, s10, s11, s12, s13, s14⟩
              go_simp
              with_reducible rfl
            rotate_left
            · simp only [Act.put, List.setIfInBounds_toArray, List.set_cons_zero, List.set_cons_succ, i64_w, i32_w]
              rfl
            refine take_ (i := 6) (N := some 124) (v := ?_) (a' := ?_) #[true, true, true, true, false, true, true, false, false, false, false, false, false, false, false, false, false, false, false, false, false, false, false, false] rfl rfl (by kernel_rfl) (fun _ _ _ h => h) (Or.inl ⟨by rfl, ?_⟩) hHeld ?_ ?_
            rotate_left
            · rintro w' ⟨s0, s1, s2, s3, s4, s5, s6, s7, s8, s9, s10, s11, s12, s13, s14⟩
              go_simp
              with_reducible rfl
            rotate_left
            · simp only [Act.put, List.setIfInBounds_toArray, List.set_cons_zero, List.set_cons_succ, i64_w, i32_w]
              rfl
            refine one_ (i := 4) (N := some 122) #[true, true, true, true, true, true, true, false, false, false, false, false, false, false, false, false, false, false, false, false, false, false, false, false] rfl rfl (by kernel_rfl) (by decide) (fun K hK => ?_)
            refine goes_ Try.func21 (by kernel_rfl) rfl #[.agg #[.string ⟨#[]⟩, .slice none 0 0, .slice none 0 0, .slice none 0 0, .slice none 0 0, .slice none 0 0, .slice none 0 0, .slice none 0 0, .slice A2 l.length c2, .slice none 0 0, .slice none 0 0, .slice none 0 0], .slice B t.length d, .int .i64 x.f1] (by rfl) rfl rfl (by simp only [List.map_toArray, List.map_cons, List.map_nil]; rfl) ?_
            with_reducible refine ((HOUT.out V3.drew x.f1 HWV3.out.drew)).mono ?_
            rintro e V4 ⟨rfl, hbel⟩
            refine ⟨_, rfl, ?_⟩
            have HWV4 := Lib.hid (below_step HWV3.out.drew hbel)
            have HXV4 := Lib.hid (blk_below HX5.out HWV4.out)
            have HBV4 := Lib.hid (blk_below (show V3.drew.heap[wr.heap.size]? = _ from HBV3.out) hbel)
            clear hbel
            refine hK.out _ _ ⟨blk_cell HXV4.out 0, blk_cell HXV4.out 1, blk_cell HXV4.out 2, blk_cell HXV4.out 3, blk_cell HXV4.out 4, blk_cell HXV4.out 5, blk_cell HXV4.out 6, blk_cell HXV4.out 7, blk_cell HXV4.out 8, blk_cell HXV4.out 9, blk_cell HXV4.out 10, blk_cell HXV4.out 11, blk_cell HBV4.out 0, blk_cell HBV4.out 1, blk_cell HBV4.out 2⟩ (fun hHeld => ?_)
            clear hK K
            refine norm_ (a' := ?_) ?_ ?_
            rotate_left
            · show Act.put _ (some 122) _ = _
              simp only [Act.put, List.setIfInBounds_toArray, List.set_cons_zero, List.set_cons_succ, i64_w, i32_w]
              rfl
            refine pure_ (i := 7) (N := some 125) (v := ?_) (a' := ?_) #[true, true, true, true, true, true, true, true, false, false, false, false, false, false, false, false, false, false, false, false, false, false, false, false] rfl rfl (by kernel_rfl) (fun _ _ _ h => h) (Or.inl ⟨by rfl, ?_⟩) ?_ ?_
            rotate_left
            · intro w'
              go_simp
              with_reducible rfl
            rotate_left
            · simp only [Act.put, List.setIfInBounds_toArray, List.set_cons_zero, List.set_cons_succ, i64_w, i32_w]
              rfl
            refine pure_ (i := 8) (N := some 126) (v := ?_) (a' := ?_) #[true, true, true, true, true, true, true, true, true, false, false, false, false, false, false, false, false, false, false, false, false, false, false, false] rfl rfl (by kernel_rfl) (fun _ _ _ h => h) (Or.inl ⟨by rfl, ?_⟩) ?_ ?_
            rotate_left
            · intro w'
              go_simp
              with_reducible rfl
            rotate_left
            · simp only [Act.put, List.setIfInBounds_toArray, List.set_cons_zero, List.set_cons_succ, i64_w, i32_w]
              rfl
            refine pure_ (i := 9) (N := some 127) (v := ?_) (a' := ?_) #[true, true, true, true, true, true, true, true, true, true, false, false, false, false, false, false, false, false, false, false, false, false, false, false] rfl rfl (by kernel_rfl) (fun _ _ _ h => h) (Or.inl ⟨by rfl, ?_⟩) ?_ ?_
            rotate_left
            · intro w'
              go_simp
              with_reducible rfl
            rotate_left
            · simp only [Act.put, List.setIfInBounds_toArray, List.set_cons_zero, List.set_cons_succ, i64_w, i32_w]
              rfl
            refine take_ (i := 10) (N := some 128) (v := ?_) (a' := ?_) #[true, true, true, true, true, true, true, true, true, true, true, false, false, false, false, false, false, false, false, false, false, false, false, false] rfl rfl (by kernel_rfl) (fun _ _ _ h => h) (Or.inl ⟨by rfl, ?_⟩) hHeld ?_ ?_
            rotate_left
            · rintro w' ⟨s0, s1, s2, s3, s4, s5, s6, s7, s8, s9, s10, s11, s12, s13, s14⟩
              go_simp
              with_reducible rfl
            rotate_left
            · simp only [Act.put, List.setIfInBounds_toArray, List.set_cons_zero, List.set_cons_succ, i64_w, i32_w]
              rfl
            refine pure_ (i := 11) (N := some 129) (v := ?_) (a' := ?_) #[true, true, true, true, true, true, true, true, true, true, true, true, false, false, false, false, false, false, false, false, false, false, false, false] rfl rfl (by kernel_rfl) (fun _ _ _ h => h) (Or.inl ⟨by rfl, ?_⟩) ?_ ?_
            rotate_left
            · intro w'
              go_simp
              with_reducible rfl
            rotate_left
            · simp only [Act.put, List.setIfInBounds_toArray, List.set_cons_zero, List.set_cons_succ, i64_w, i32_w]
              rfl
            refine pure_ (i := 12) (N := some 130) (v := ?_) (a' := ?_) #[true, true, true, true, true, true, true, true, true, true, true, true, true, false, false, false, false, false, false, false, false, false, false, false] rfl rfl (by kernel_rfl) (fun _ _ _ h => h) (Or.inl ⟨by rfl, ?_⟩) ?_ ?_
            rotate_left
            · intro w'
              go_simp
              with_reducible rfl
            rotate_left
            · simp only [Act.put, List.setIfInBounds_toArray, List.set_cons_zero, List.set_cons_succ, i64_w, i32_w]
              rfl
            refine pure_ (i := 14) (N := some 132) (v := ?_) (a' := ?_) #[true, true, true, true, true, true, true, true, true, true, true, true, true, false, true, false, false, false, false, false, false, false, false, false] rfl rfl (by kernel_rfl) (fun _ _ _ h => h) (Or.inl ⟨by rfl, ?_⟩) ?_ ?_
            rotate_left
            · intro w'
              go_simp
              with_reducible rfl
            rotate_left
            · simp only [Act.put, List.setIfInBounds_toArray, List.set_cons_zero, List.set_cons_succ, i64_w, i32_w]
              rfl
            refine pure_ (i := 15) (N := some 133) (v := ?_) (a' := ?_) #[true, true, true, true, true, true, true, true, true, true, true, true, true, false, true, true, false, false, false, false, false, false, false, false] rfl rfl (by kernel_rfl) (fun _ _ _ h => h) (Or.inl ⟨by rfl, ?_⟩) ?_ ?_
            rotate_left
            · intro w'
              go_simp
              with_reducible rfl
            rotate_left
            · simp only [Act.put, List.setIfInBounds_toArray, List.set_cons_zero, List.set_cons_succ, i64_w, i32_w]
              rfl
            refine pure_ (i := 19) (N := some 137) (v := ?_) (a' := ?_) #[true, true, true, true, true, true, true, true, true, true, true, true, true, false, true, true, false, false, false, true, false, false, false, false] rfl rfl (by kernel_rfl) (fun _ _ _ h => h) (Or.inl ⟨by rfl, ?_⟩) ?_ ?_
            rotate_left
            · intro w'
              go_simp
              with_reducible rfl
            rotate_left
            · simp only [Act.put, List.setIfInBounds_toArray, List.set_cons_zero, List.set_cons_succ, i64_w, i32_w]
              rfl
            refine take_ (i := 13) (N := some 131) (v := ?_) (a' := ?_) #[true, true, true, true, true, true, true, true, true, true, true, true, true, true, true, true, false, false, false, true, false, false, false, false] rfl rfl (by kernel_rfl) (fun _ _ _ h => h) (Or.inl ⟨by rfl, ?_⟩) hHeld ?_ ?_
            rotate_left
            · rintro w' ⟨s0, s1, s2, s3, s4, s5, s6, s7, s8, s9, s10, s11, s12, s13, s14⟩
              go_simp
              with_reducible rfl
            rotate_left
            · simp only [Act.put, List.setIfInBounds_toArray, List.set_cons_zero, List.set_cons_succ, i64_w, i32_w]
              rfl
            refine take_ (i := 16) (N := some 134) (v := ?_) (a' := ?_) #[true, true, true, true, true, true, true, true, true, true, true, true, true, true, true, true, true, false, false, true, false, false, false, false] rfl rfl (by kernel_rfl) (fun _ _ _ h => h) (Or.inl ⟨by rfl, ?_⟩) hHeld ?_ ?_
            rotate_left
            · rintro w' ⟨s0, s1, s2, s3, s4, s5, s6, s7, s8, s9, s10, s11, s12, s13, s14⟩
              go_simp
              with_reducible rfl
            rotate_left
            · simp only [Act.put, List.setIfInBounds_toArray, List.set_cons_zero, List.set_cons_succ, i64_w, i32_w]
              rfl
            refine pure_ (i := 17) (N := some 135) (v := ?_) (a' := ?_) #[true, true, true, true, true, true, true, true, true, true, true, true, true, true, true, true, true, true, false, true, false, false, false, false] rfl rfl (by kernel_rfl) (fun _ _ _ h => h) (Or.inl ⟨by rfl, ?_⟩) ?_ ?_
            rotate_left
            · intro w'
              go_simp
              with_reducible rfl
            rotate_left
            · simp only [Act.put, List.setIfInBounds_toArray, List.set_cons_zero, List.set_cons_succ, i64_w, i32_w]
              rfl
            refine take_ (i := 20) (N := some 138) (v := ?_) (a' := ?_) #[true, true, true, true, true, true, true, true, true, true, true, true, true, true, true, true, true, true, false, true, true, false, false, false] rfl rfl (by kernel_rfl) (fun _ _ _ h => h) (Or.inl ⟨by rfl, ?_⟩) hHeld ?_ ?_
            rotate_left
            · rintro w' ⟨s0, s1, s2, s3, s4, s5, s6, s7, s8, s9, s10, s11, s12, s13, s14⟩
              go_simp
              with_reducible rfl
            rotate_left
            · simp only [Act.put, List.setIfInBounds_toArray, List.set_cons_zero, List.set_cons_succ, i64_w, i32_w]
              rfl
            refine one_ (i := 18) (N := some 136) #[true, true, true, true, true, true, true, true, true, true, true, true, true, true, true, true, true, true, true, true, true, false, false, false] rfl rfl (by kernel_rfl) (by decide) (fun K hK => ?_)
            refine goes_ Try.func21 (by kernel_rfl) rfl #[.agg #[.string ⟨#[]⟩, .slice none 0 0, .slice none 0 0, .slice none 0 0, .slice none 0 0, .slice none 0 0, .slice none 0 0, .slice none 0 0, .slice A2 l.length c2, .slice none 0 0, .slice none 0 0, .slice none 0 0], .slice B t.length d, .int .i64 (x.f0 - 1)] (by rfl) rfl rfl (by simp only [List.map_toArray, List.map_cons, List.map_nil]; rfl) ?_
            with_reducible refine ((HOUT.out V4 (x.f0 - 1) HWV4.out)).mono ?_
            rintro e V5 ⟨rfl, hbel⟩
            refine ⟨_, rfl, ?_⟩
            have HWV5 := Lib.hid (below_step HWV4.out hbel)
            have HXV5 := Lib.hid (blk_below HX5.out HWV5.out)
            have HBV5 := Lib.hid (blk_below (show V4.heap[wr.heap.size]? = _ from HBV4.out) hbel)
            clear hbel
            refine hK.out _ _ ⟨blk_cell HXV5.out 0, blk_cell HXV5.out 1, blk_cell HXV5.out 2, blk_cell HXV5.out 3, blk_cell HXV5.out 4, blk_cell HXV5.out 5, blk_cell HXV5.out 6, blk_cell HXV5.out 7, blk_cell HXV5.out 8, blk_cell HXV5.out 9, blk_cell HXV5.out 10, blk_cell HXV5.out 11, blk_cell HBV5.out 0, blk_cell HBV5.out 1, blk_cell HBV5.out 2⟩ (fun hHeld => ?_)
            clear hK K
            refine norm_ (a' := ?_) ?_ ?_
            rotate_left
            · show Act.put _ (some 136) _ = _
              simp only [Act.put, List.setIfInBounds_toArray, List.set_cons_zero, List.set_cons_succ, i64_w, i32_w]
              rfl
            refine pure_ (i := 21) (N := some 139) (v := ?_) (a' := ?_) #[true, true, true, true, true, true, true, true, true, true, true, true, true, true, true, true, true, true, true, true, true, true, false, false] rfl rfl (by kernel_rfl) (fun _ _ _ h => h) (Or.inl ⟨by rfl, ?_⟩) ?_ ?_
            rotate_left
            · intro w'
              go_simp
              with_reducible rfl
            rotate_left
            · simp only [Act.put, List.setIfInBounds_toArray, List.set_cons_zero, List.set_cons_succ, i64_w, i32_w]
              rfl
            refine pure_ (i := 22) (N := some 140) (v := ?_) (a' := ?_) #[true, true, true, true, true, true, true, true, true, true, true, true, true, true, true, true, true, true, true, true, true, true, true, false] rfl rfl (by kernel_rfl) (fun _ _ _ h => h) (Or.inl ⟨by rfl, ?_⟩) ?_ ?_
            rotate_left
            · intro w'
              go_simp
              with_reducible rfl
            rotate_left
            · simp only [Act.put, List.setIfInBounds_toArray, List.set_cons_zero, List.set_cons_succ, i64_w, i32_w]
              rfl
            refine pure_ (i := 23) (N := some 141) (v := ?_) (a' := ?_) #[true, true, true, true, true, true, true, true, true, true, true, true, true, true, true, true, true, true, true, true, true, true, true, true] rfl rfl (by kernel_rfl) (fun _ _ _ h => h) (Or.inl ⟨by rfl, ?_⟩) ?_ ?_
            rotate_left
            · intro w'
              go_simp
              with_reducible rfl
            rotate_left
            · simp only [Act.put, List.setIfInBounds_toArray, List.set_cons_zero, List.set_cons_succ, i64_w, i32_w]
              rfl
            refine done_ (by kernel_rfl) ?_
            go_wp2_with fail
            go_roundw
            case rel => exact ⟨i + 1, by rw [Int.natCast_add]; rfl, by omega, HWV5⟩
            case measure => simp only [intOf]; omega
          · have d8 : decide (0 < x.f0) = false := decide_eq_false hpos
            refine start_ (n := 24) (S := fun w' => w'.cell? ⟨W3.heap.size, 0, none⟩ = some (.string ⟨#[]⟩) ∧ w'.cell? ⟨W3.heap.size, 1, none⟩ = some (.slice none 0 0) ∧ w'.cell? ⟨W3.heap.size, 2, none⟩ = some (.slice none 0 0) ∧ w'.cell? ⟨W3.heap.size, 3, none⟩ = some (.slice none 0 0) ∧ w'.cell? ⟨W3.heap.size, 4, none⟩ = some (.slice none 0 0) ∧ w'.cell? ⟨W3.heap.size, 5, none⟩ = some (.slice none 0 0) ∧ w'.cell? ⟨W3.heap.size, 6, none⟩ = some (.slice none 0 0) ∧ w'.cell? ⟨W3.heap.size, 7, none⟩ = some (.slice none 0 0) ∧ w'.cell? ⟨W3.heap.size, 8, none⟩ = some (.slice A2 l.length c2) ∧ w'.cell? ⟨W3.heap.size, 9, none⟩ = some (.slice none 0 0) ∧ w'.cell? ⟨W3.heap.size, 10, none⟩ = some (.slice none 0 0) ∧ w'.cell? ⟨W3.heap.size, 11, none⟩ = some (.slice none 0 0) ∧ w'.cell? ⟨wr.heap.size, 0, none⟩ = some (.int .i64 x.f0) ∧ w'.cell? ⟨wr.heap.size, 1, none⟩ = some (.int .i64 x.f1) ∧ w'.cell? ⟨wr.heap.size, 2, none⟩ = some (.string x.f2)) (ds := []) #[false, false, false, false, false, false, false, false, false, false, false, false, false, false, false, false, false, false, false, false, false, false, false, false] (by kernel_rfl) rfl rfl ⟨blk_cell HXV3.out 0, blk_cell HXV3.out 1, blk_cell HXV3.out 2, blk_cell HXV3.out 3, blk_cell HXV3.out 4, blk_cell HXV3.out 5, blk_cell HXV3.out 6, blk_cell HXV3.out 7, blk_cell HXV3.out 8, blk_cell HXV3.out 9, blk_cell HXV3.out 10, blk_cell HXV3.out 11, blk_cell HBV3.out 0, blk_cell HBV3.out 1, blk_cell HBV3.out 2⟩ (fun hHeld => ?_)
            refine pure_ (i := 1) (N := some 119) (v := ?_) (a' := ?_) #[false, true, false, false, false, false, false, false, false, false, false, false, false, false, false, false, false, false, false, false, false, false, false, false] rfl rfl (by kernel_rfl) (fun _ _ _ h => h) (Or.inl ⟨by rfl, ?_⟩) ?_ ?_
            rotate_left
            · intro w'
              go_simp
              with_reducible rfl
            rotate_left
            · simp only [Act.put, List.setIfInBounds_toArray, List.set_cons_zero, List.set_cons_succ, i64_w, i32_w]
              rfl
            refine pure_ (i := 2) (N := some 120) (v := ?_) (a' := ?_) #[false, true, true, false, false, false, false, false, false, false, false, false, false, false, false, false, false, false, false, false, false, false, false, false] rfl rfl (by kernel_rfl) (fun _ _ _ h => h) (Or.inl ⟨by rfl, ?_⟩) ?_ ?_
            rotate_left
            · intro w'
              go_simp
              with_reducible rfl
            rotate_left
            · simp only [Act.put, List.setIfInBounds_toArray, List.set_cons_zero, List.set_cons_succ, i64_w, i32_w]
              rfl
            refine pure_ (i := 5) (N := some 123) (v := ?_) (a' := ?_) #[false, true, true, false, false, true, false, false, false, false, false, false, false, false, false, false, false, false, false, false, false, false, false, false] rfl rfl (by kernel_rfl) (fun _ _ _ h => h) (Or.inl ⟨by rfl, ?_⟩) ?_ ?_
            rotate_left
            · intro w'
              go_simp
              with_reducible rfl
            rotate_left
            · simp only [Act.put, List.setIfInBounds_toArray, List.set_cons_zero, List.set_cons_succ, i64_w, i32_w]
              rfl
            refine take_ (i := 0) (N := some 118) (v := ?_) (a' := ?_) #[true, true, true, false, false, true, false, false, false, false, false, false, false, false, false, false, false, false, false, false, false, false, false, false] rfl rfl (by kernel_rfl) (fun _ _ _ h => h) (Or.inl ⟨by rfl, ?_⟩) hHeld ?_ ?_
            rotate_left
            · rintro w' ⟨s0, s1, s2, s3, s4, s5, s6, s7, s8, s9, s10, s11, s12, s13, s14⟩
              go_simp
              with_reducible rfl
            rotate_left
            · simp only [Act.put, List.setIfInBounds_toArray, List.set_cons_zero, List.set_cons_succ, i64_w, i32_w]
              rfl
            refine take_ (i := 3) (N := some 121) (v := ?_) (a' := ?_) #[true, true, true, true, false, true, false, false, false, false, false, false, false, false, false, false, false, false, false, false, false, false, false, false] rfl rfl (by kernel_rfl) (fun _ _ _ h => h) (Or.inl ⟨by rfl, ?_⟩) hHeld ?_ ?_
            rotate_left
            · rintro w' ⟨s0, s1, s2, s3, s4, s5, s6, s7, s8, s9, s10, s11, s12, s13, s14⟩
              go_simp
              with_reducible rfl
            rotate_left
            · simp only [Act.put, List.setIfInBounds_toArray, List.set_cons_zero, List.set_cons_succ, i64_w, i32_w]
              rfl
            refine take_ (i := 6) (N := some 124) (v := ?_) (a' := ?_) #[true, true, true, true, false, true, true, false, false, false, false, false, false, false, false, false, false, false, false, false, false, false, false, false] rfl rfl (by kernel_rfl) (fun _ _ _ h => h) (Or.inl ⟨by rfl, ?_⟩) hHeld ?_ ?_
            rotate_left
            · rintro w' ⟨s0, s1, s2, s3, s4, s5, s6, s7, s8, s9, s10, s11, s12, s13, s14⟩
              go_simp
              with_reducible rfl
            rotate_left
            · simp only [Act.put, List.setIfInBounds_toArray, List.set_cons_zero, List.set_cons_succ, i64_w, i32_w]
              rfl
            refine one_ (i := 4) (N := some 122) #[true, true, true, true, true, true, true, false, false, false, false, false, false, false, false, false, false, false, false, false, false, false, false, false] rfl rfl (by kernel_rfl) (by decide) (fun K hK => ?_)
            refine goes_ Try.func21 (by kernel_rfl) rfl #[.agg #[.string ⟨#[]⟩, .slice none 0 0, .slice none 0 0, .slice none 0 0, .slice none 0 0, .slice none 0 0, .slice none 0 0, .slice none 0 0, .slice A2 l.length c2, .slice none 0 0, .slice none 0 0, .slice none 0 0], .slice B t.length d, .int .i64 x.f1] (by rfl) rfl rfl (by simp only [List.map_toArray, List.map_cons, List.map_nil]; rfl) ?_
            with_reducible refine ((HOUT.out V3.drew x.f1 HWV3.out.drew)).mono ?_
            rintro e V4 ⟨rfl, hbel⟩
            refine ⟨_, rfl, ?_⟩
            have HWV4 := Lib.hid (below_step HWV3.out.drew hbel)
            have HXV4 := Lib.hid (blk_below HX5.out HWV4.out)
            have HBV4 := Lib.hid (blk_below (show V3.drew.heap[wr.heap.size]? = _ from HBV3.out) hbel)
            clear hbel
            refine hK.out _ _ ⟨blk_cell HXV4.out 0, blk_cell HXV4.out 1, blk_cell HXV4.out 2, blk_cell HXV4.out 3, blk_cell HXV4.out 4, blk_cell HXV4.out 5, blk_cell HXV4.out 6, blk_cell HXV4.out 7, blk_cell HXV4.out 8, blk_cell HXV4.out 9, blk_cell HXV4.out 10, blk_cell HXV4.out 11, blk_cell HBV4.out 0, blk_cell HBV4.out 1, blk_cell HBV4.out 2⟩ (fun hHeld => ?_)
            clear hK K
            refine norm_ (a' := ?_) ?_ ?_
            rotate_left
            · show Act.put _ (some 122) _ = _
              simp only [Act.put, List.setIfInBounds_toArray, List.set_cons_zero, List.set_cons_succ, i64_w, i32_w]
              rfl
            refine pure_ (i := 7) (N := some 125) (v := ?_) (a' := ?_) #[true, true, true, true, true, true, true, true, false, false, false, false, false, false, false, false, false, false, false, false, false, false, false, false] rfl rfl (by kernel_rfl) (fun _ _ _ h => h) (Or.inl ⟨by rfl, ?_⟩) ?_ ?_
            rotate_left
            · intro w'
              go_simp
              with_reducible rfl
            rotate_left
            · simp only [Act.put, List.setIfInBounds_toArray, List.set_cons_zero, List.set_cons_succ, i64_w, i32_w]
              rfl
            refine pure_ (i := 8) (N := some 126) (v := ?_) (a' := ?_) #[true, true, true, true, true, true, true, true, true, false, false, false, false, false, false, false, false, false, false, false, false, false, false, false] rfl rfl (by kernel_rfl) (fun _ _ _ h => h) (Or.inl ⟨by rfl, ?_⟩) ?_ ?_
            rotate_left
            · intro w'
              go_simp
              with_reducible rfl
            rotate_left
            · simp only [Act.put, List.setIfInBounds_toArray, List.set_cons_zero, List.set_cons_succ, i64_w, i32_w]
              rfl
            refine pure_ (i := 9) (N := some 127) (v := ?_) (a' := ?_) #[true, true, true, true, true, true, true, true, true, true, false, false, false, false, false, false, false, false, false, false, false, false, false, false] rfl rfl (by kernel_rfl) (fun _ _ _ h => h) (Or.inl ⟨by rfl, ?_⟩) ?_ ?_
            rotate_left
            · intro w'
              go_simp
              with_reducible rfl
            rotate_left
            · simp only [Act.put, List.setIfInBounds_toArray, List.set_cons_zero, List.set_cons_succ, i64_w, i32_w]
              rfl
            refine take_ (i := 10) (N := some 128) (v := ?_) (a' := ?_) #[true, true, true, true, true, true, true, true, true, true, true, false, false, false, false, false, false, false, false, false, false, false, false, false] rfl rfl (by kernel_rfl) (fun _ _ _ h => h) (Or.inl ⟨by rfl, ?_⟩) hHeld ?_ ?_
            rotate_left
            · rintro w' ⟨s0, s1, s2, s3, s4, s5, s6, s7, s8, s9, s10, s11, s12, s13, s14⟩
              go_simp
              with_reducible rfl
            rotate_left
            · simp only [Act.put, List.setIfInBounds_toArray, List.set_cons_zero, List.set_cons_succ, i64_w, i32_w]
              rfl
            refine pure_ (i := 11) (N := some 129) (v := ?_) (a' := ?_) #[true, true, true, true, true, true, true, true, true, true, true, true, false, false, false, false, false, false, false, false, false, false, false, false] rfl rfl (by kernel_rfl) (fun _ _ _ h => h) (Or.inl ⟨by rfl, ?_⟩) ?_ ?_
            rotate_left
            · intro w'
              go_simp
              with_reducible rfl
            rotate_left
            · simp only [Act.put, List.setIfInBounds_toArray, List.set_cons_zero, List.set_cons_succ, i64_w, i32_w]
              rfl
            refine pure_ (i := 12) (N := some 130) (v := ?_) (a' := ?_) #[true, true, true, true, true, true, true, true, true, true, true, true, true, false, false, false, false, false, false, false, false, false, false, false] rfl rfl (by kernel_rfl) (fun _ _ _ h => h) (Or.inl ⟨by rfl, ?_⟩) ?_ ?_
            rotate_left
            · intro w'
              go_simp
              with_reducible rfl
            rotate_left
            · simp only [Act.put, List.setIfInBounds_toArray, List.set_cons_zero, List.set_cons_succ, i64_w, i32_w]
              rfl
            refine pure_ (i := 13) (N := some 131) (v := undef) (a' := ?_) #[true, true, true, true, true, true, true, true, true, true, true, true, true, true, false, false, false, false, false, false, false, false, false, false] rfl rfl (by kernel_rfl) (fun _ _ _ h => h) (Or.inr ⟨by rfl, rfl⟩) ?_ ?_
            rotate_left
            · simp only [Act.put, List.setIfInBounds_toArray, List.set_cons_zero, List.set_cons_succ, i64_w, i32_w]
              rfl
            refine pure_ (i := 14) (N := some 132) (v := undef) (a' := ?_) #[true, true, true, true, true, true, true, true, true, true, true, true, true, true, true, false, false, false, false, false, false, false, false, false] rfl rfl (by kernel_rfl) (fun _ _ _ h => h) (Or.inr ⟨by rfl, rfl⟩) ?_ ?_
            rotate_left
            · simp only [Act.put, List.setIfInBounds_toArray, List.set_cons_zero, List.set_cons_succ, i64_w, i32_w]
              rfl
            refine pure_ (i := 15) (N := some 133) (v := undef) (a' := ?_) #[true, true, true, true, true, true, true, true, true, true, true, true, true, true, true, true, false, false, false, false, false, false, false, false] rfl rfl (by kernel_rfl) (fun _ _ _ h => h) (Or.inr ⟨by rfl, rfl⟩) ?_ ?_
            rotate_left
            · simp only [Act.put, List.setIfInBounds_toArray, List.set_cons_zero, List.set_cons_succ, i64_w, i32_w]
              rfl
            refine pure_ (i := 16) (N := some 134) (v := undef) (a' := ?_) #[true, true, true, true, true, true, true, true, true, true, true, true, true, true, true, true, true, false, false, false, false, false, false, false] rfl rfl (by kernel_rfl) (fun _ _ _ h => h) (Or.inr ⟨by rfl, rfl⟩) ?_ ?_
            rotate_left
            · simp only [Act.put, List.setIfInBounds_toArray, List.set_cons_zero, List.set_cons_succ, i64_w, i32_w]
              rfl
            refine pure_ (i := 17) (N := some 135) (v := undef) (a' := ?_) #[true, true, true, true, true, true, true, true, true, true, true, true, true, true, true, true, true, true, false, false, false, false, false, false] rfl rfl (by kernel_rfl) (fun _ _ _ h => h) (Or.inr ⟨by rfl, rfl⟩) ?_ ?_
            rotate_left
            · simp only [Act.put, List.setIfInBounds_toArray, List.set_cons_zero, List.set_cons_succ, i64_w, i32_w]
              rfl
            refine pure_ (i := 18) (N := some 136) (v := undef) (a' := ?_) #[true, true, true, true, true, true, true, true, true, true, true, true, true, true, true, true, true, true, true, false, false, false, false, false] rfl rfl (by kernel_rfl) (fun _ _ _ h => h) (Or.inr ⟨by rfl, rfl⟩) ?_ ?_
            rotate_left
            · simp only [Act.put, List.setIfInBounds_toArray, List.set_cons_zero, List.set_cons_succ, i64_w, i32_w]
              rfl
            refine pure_ (i := 19) (N := some 137) (v := undef) (a' := ?_) #[true, true, true, true, true, true, true, true, true, true, true, true, true, true, true, true, true, true, true, true, false, false, false, false] rfl rfl (by kernel_rfl) (fun _ _ _ h => h) (Or.inr ⟨by rfl, rfl⟩) ?_ ?_
            rotate_left
            · simp only [Act.put, List.setIfInBounds_toArray, List.set_cons_zero, List.set_cons_succ, i64_w, i32_w]
              rfl
            refine pure_ (i := 20) (N := some 138) (v := undef) (a' := ?_) #[true, true, true, true, true, true, true, true, true, true, true, true, true, true, true, true, true, true, true, true, true, false, false, false] rfl rfl (by kernel_rfl) (fun _ _ _ h => h) (Or.inr ⟨by rfl, rfl⟩) ?_ ?_
            rotate_left
            · simp only [Act.put, List.setIfInBounds_toArray, List.set_cons_zero, List.set_cons_succ, i64_w, i32_w]
              rfl
            refine pure_ (i := 21) (N := some 139) (v := undef) (a' := ?_) #[true, true, true, true, true, true, true, true, true, true, true, true, true, true, true, true, true, true, true, true, true, true, false, false] rfl rfl (by kernel_rfl) (fun _ _ _ h => h) (Or.inr ⟨by rfl, rfl⟩) ?_ ?_
            rotate_left
            · simp only [Act.put, List.setIfInBounds_toArray, List.set_cons_zero, List.set_cons_succ, i64_w, i32_w]
              rfl
            refine pure_ (i := 22) (N := some 140) (v := ?_) (a' := ?_) #[true, true, true, true, true, true, true, true, true, true, true, true, true, true, true, true, true, true, true, true, true, true, true, false] rfl rfl (by kernel_rfl) (fun _ _ _ h => h) (Or.inl ⟨by rfl, ?_⟩) ?_ ?_
            rotate_left
            · intro w'
              go_simp
              with_reducible rfl
            rotate_left
            · simp only [Act.put, List.setIfInBounds_toArray, List.set_cons_zero, List.set_cons_succ, i64_w, i32_w]
              rfl
            refine pure_ (i := 23) (N := some 141) (v := ?_) (a' := ?_) #[true, true, true, true, true, true, true, true, true, true, true, true, true, true, true, true, true, true, true, true, true, true, true, true] rfl rfl (by kernel_rfl) (fun _ _ _ h => h) (Or.inl ⟨by rfl, ?_⟩) ?_ ?_
            rotate_left
            · intro w'
              go_simp
              with_reducible rfl
            rotate_left
            · simp only [Act.put, List.setIfInBounds_toArray, List.set_cons_zero, List.set_cons_succ, i64_w, i32_w]
              rfl
            refine done_ (by kernel_rfl) ?_
            go_wp2_with fail
            go_roundw
            case rel => exact ⟨i + 1, by rw [Int.natCast_add]; rfl, by omega, HWV4⟩
            case measure => simp only [intOf]; omega
      · have hib : decide ((i : Int) < (s.length : Int)) = false := decide_eq_false (by omega)
        go_wp2_with fail
        go_ret
        exact ⟨rfl, below_step HB5.out HW.out⟩
end Paint
end Go.Proofs.Ytcijanmckhlpiaa
