import Derived.Test.YtcijanmckhlpiaaPaintClassAll
import Derived.Test.YtcijanmckhlpiaaPaintRefClass
import Derived.Test.YtcijanmckhlpiaaPaintPlain2
namespace Go.Proofs.Ytcijanmckhlpiaa
open Go.RowKit Go.Proofs.YtcijanmckhlpiaaW.PrintWords Go.Proofs.YtcijanmckhlpiaaW.PrintLast Go.Proofs.YtcijanmckhlpiaaW.PrintMore Go.Proofs.Ytcijanmckhlpiaa.PPaintClasses
set_option linter.unusedVariables false
set_option linter.unusedSimpArgs false
namespace Paint
set_option maxRecDepth 100000 in
set_option maxHeartbeats 4000000 in
theorem paintClasses_any (A : Option Addr) (c : Nat) (l : List PD) (B : Option Addr) (d : Nat) (t : List S76) (a : Int) (w : World) (hr : k99.C w A l.length l) (hz : l.length ≤ 1048576) (hrt : k76.C w B t.length t) (hd : t.length ≤ d) (hzt : t.length ≤ 1048576)
    (hsl : ∀ x ∈ l, x.1.size ≤ maxLen) (hkr : ∀ x ∈ t, x.f5 ≤ 9223372036854775807) (hst : ∀ x ∈ t, x.f0.size ≤ maxLen) :
    Calls Try.prog 5 #[.slice A l.length c, .slice B t.length d, .int .i64 a] w fun e w' => e = .returned (.bool true) ∧ Below w.heap.size w w' := by
  have HR := Lib.hid hr
  have HRT := Lib.hid hrt
  obtain ⟨rb, hb⟩ := Beyond_ev hzt
  obtain ⟨kb, hkb⟩ := hb.rounds
  obtain ⟨ks, hks⟩ := (sameNodes_ev hzt).rounds
  have HB1 : Hid (Calls Try.prog 19 #[.slice B t.length d] w fun e w' => e = .returned (.bool rb) ∧ Below w.heap.size w w') := trellisref15_Beyond.calls kb B d t rb w hrt hd hkb
  have HTW : Hid (∀ W, k76.C W B t.length t → Calls Try.prog 20 #[.slice B t.length d] W fun e w' => ∃ A1 d1, e = .returned (.slice A1 t.length d1) ∧ t.length ≤ d1 ∧ k76.C w' A1 t.length t ∧ Below W.heap.size W w') := fun W h => (trellislaw21_twin.calls B d t t W h hd (twin_f hzt)).mono (by
    rintro e w' ⟨v, rfl, h1, h2⟩
    obtain ⟨A1, d1, rfl, h3, h4⟩ := Kd.R_reads h1
    exact ⟨A1, d1, rfl, h3, h4, h2⟩)
  have HLA : Hid (∀ W, k99.C W A l.length l → Calls Try.prog 22 #[.slice A l.length c] W fun e w' => ∃ A' c', e = .returned (LG (.slice A' l.length c')) ∧ l.length ≤ c' ∧ k99.C w' A' l.length l ∧ Below W.heap.size W w') := fun W h => lang_any A c l W h (by omega)
  have HCL : Hid (∀ W A' c' B' d', k99.C W A' l.length l → k76.C W B' t.length t → t.length ≤ d' → Calls Try.prog 21 #[LG (.slice A' l.length c'), .slice B' t.length d', .int .i64 a] W fun e w' => e = .returned (.string (classAll l t a)) ∧ Below W.heap.size W w') := fun W A' c' B' d' h1 h2 h3 => Class_any A' c' l B' d' t a W h1 hz h2 h3 hzt hsl hkr hst
  have HRC : Hid (∀ W A' c', k99.C W A' l.length l → k76.C W B t.length t → Calls Try.prog 23 #[LG (.slice A' l.length c'), .slice B t.length d, .int .i64 a] W fun e w' => e = .returned (.string (classAll l t a)) ∧ Below W.heap.size W w') := fun W A' c' h1 h2 => refClass_any A' c' l B d t a W h1 hz h2 hd hzt
  have HSN : Hid (∀ W A1 d1, k76.C W A1 t.length t → t.length ≤ d1 → k76.C W B t.length t → Calls Try.prog 24 #[.slice A1 t.length d1, .slice B t.length d] W fun e w' => e = .returned (.bool true) ∧ Below W.heap.size W w') := fun W A1 d1 h1 h2 h3 => (trellislaw21_sameNodes.calls ks A1 d1 t B d t true W h1 h2 h3 hd hks).mono (by
    rintro e w' ⟨rfl, h⟩
    exact ⟨rfl, h.below⟩)
  clear hr hrt hkb hks hsl hkr hst hb
  generalize classAll l t a = sv at *
  have hsv : (sv.toList == sv.toList) = true := beq_self_eq_true _
  go_enter Try.func5, Try.ntmps5
  have tok : True := trivial
  go_wp2_with fail
  refine HB1.out.mono ?_
  rintro e W1 ⟨rfl, hbel⟩
  have HB1' := Lib.hid hbel
  clear hbel HB1
  cases rb with
  | true =>
    go_wp2_with fail
    go_ret
    exact ⟨rfl, HB1'.out⟩
  | false =>
    go_wp2_with fail
    refine (HTW.out W1 (Kd.C_below HRT.out HB1'.out)).mono ?_
    rintro e W2 ⟨A1, d1, rfl, hd1, hC1, hbel⟩
    have HC1 := Lib.hid hC1
    have HB2 := Lib.hid (below_step HB1'.out hbel)
    clear hC1 hbel
    go_wp2_with fail
    refine (HLA.out W2 (Kd.C_below HR.out HB2.out)).mono ?_
    rintro e W3 ⟨A2, c2, rfl, hc2, hC2, hbel⟩
    have HC2 := Lib.hid hC2
    have HC1' := Lib.hid (Kd.C_below HC1.out hbel)
    have HB3 := Lib.hid (below_step HB2.out hbel)
    clear hC2 hbel
    unfold LG at *
    go_wp2_with fail
    refine (HCL.out W3 A2 c2 A1 d1 HC2.out HC1'.out hd1).mono ?_
    rintro e W4 ⟨rfl, hbel⟩
    have HC1'' := Lib.hid (Kd.C_below HC1'.out hbel)
    have HB4 := Lib.hid (below_step HB3.out hbel)
    clear hbel
    go_wp2_with fail
    refine (HLA.out W4 (Kd.C_below HR.out HB4.out)).mono ?_
    rintro e W5 ⟨A3, c3, rfl, hc3, hC3, hbel⟩
    have HC3 := Lib.hid hC3
    have HC1_5 := Lib.hid (Kd.C_below HC1''.out hbel)
    have HB5 := Lib.hid (below_step HB4.out hbel)
    clear hC3 hbel
    go_wp2_with fail
    refine (HRC.out W5 A3 c3 HC3.out (Kd.C_below HRT.out HB5.out)).mono ?_
    rintro e W6 ⟨rfl, hbel⟩
    have HC1_6 := Lib.hid (Kd.C_below HC1_5.out hbel)
    have HB6 := Lib.hid (below_step HB5.out hbel)
    clear hbel
    go_wp2_with fail
    refine (HSN.out W6 A1 d1 HC1_6.out hd1 (Kd.C_below HRT.out HB6.out)).mono ?_
    rintro e W7 ⟨rfl, hbel⟩
    have HB7 := Lib.hid (below_step HB6.out hbel)
    clear hbel
    go_wp2_with fail
    go_ret
    exact ⟨rfl, HB7.out⟩
end Paint
end Go.Proofs.Ytcijanmckhlpiaa
