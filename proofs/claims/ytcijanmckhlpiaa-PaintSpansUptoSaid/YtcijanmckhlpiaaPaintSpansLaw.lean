import Derived.Test.YtcijanmckhlpiaaRefSpans
import Derived.Test.YtcijanmckhlpiaaSpansSame
namespace Go.Proofs.Ytcijanmckhlpiaa
open Go.RowKit Go.Proofs.YtcijanmckhlpiaaW.PrintWords Go.Proofs.YtcijanmckhlpiaaW.PrintLast Go.Proofs.YtcijanmckhlpiaaW.PrintMore Go.Proofs.Ytcijanmckhlpiaa.PPaintClasses
set_option linter.unusedVariables false
set_option linter.unusedSimpArgs false
namespace Paint
set_option maxRecDepth 100000 in
set_option maxHeartbeats 4000000 in
theorem paintSpans_any (A : Option Addr) (c : Nat) (l : List PD) (B : Option Addr) (d : Nat) (t : List S76) (w : World) (hr : k99.C w A l.length l) (hz : l.length ≤ 1048576) (hrt : k76.C w B t.length t) (hd : t.length ≤ d) (hzt : t.length ≤ 1048576)
    (hsl : ∀ x ∈ l, x.1.size ≤ maxLen) (hkr : ∀ x ∈ t, x.f5 ≤ 9223372036854775807) (hst : ∀ x ∈ t, x.f0.size ≤ maxLen) (hpl : ∀ x ∈ t, (Lit.int .i64 x.f3).wf = true ∧ (Lit.int .i64 x.f4).wf = true) :
    Calls Try.prog 7 #[.slice A l.length c, .slice B t.length d] w fun e w' => e = .returned (.bool true) ∧ Below w.heap.size w w' := by
  have HR := Lib.hid hr
  have HRT := Lib.hid hrt
  obtain ⟨rb, hb⟩ := Beyond_ev hzt
  obtain ⟨kb, hkb⟩ := hb.rounds
  obtain ⟨ks, hks⟩ := (sameNodes_ev hzt).rounds
  have HB1 : Hid (Calls Try.prog 19 #[.slice B t.length d] w fun e w' => e = .returned (.bool rb) ∧ Below w.heap.size w w') := trellisref15_Beyond.calls kb B d t rb w hrt hd hkb
  have HTW : Hid (∀ W, k76.C W B t.length t → Calls Try.prog 20 #[.slice B t.length d] W fun e w' => ∃ A1 d1, e = .returned (.slice A1 t.length d1) ∧ t.length ≤ d1 ∧ k76.C w' A1 t.length t ∧ Below W.heap.size W w') := fun W h => (trellislaw21_twin.calls B d t t W h hd (twin_f hzt)).mono (by
    rintro e w' ⟨v, rfl, h1, h2⟩
    obtain ⟨A1, d1, rfl, h3, h4⟩ := Kd.R_reads h1
    exact ⟨A1, d1, rfl, h3, h4, h2⟩)
  have HLA : Hid (∀ W, k99.C W A l.length l → Calls Try.prog 22 #[.slice A l.length c] W fun e w' => ∃ A' c', e = .returned (LG (.slice A' l.length c')) ∧ l.length ≤ c' ∧ k99.C w' A' l.length l ∧ Below W.heap.size W w') := fun W h => lang_any A c l W h (by omega)
  have HSP : Hid (∀ W A' c' B' d', k99.C W A' l.length l → k76.C W B' t.length t → t.length ≤ d' → Calls Try.prog 27 #[LG (.slice A' l.length c'), .slice B' t.length d'] W fun e w' => ∃ P As cs, GoodP t P ∧ e = .returned (.slice As (spansS l t P).length cs) ∧ (spansS l t P).length ≤ cs ∧ k72.C w' As (spansS l t P).length (spansS l t P) ∧ Below W.heap.size W w') := fun W A' c' B' d' h1 h2 h3 => (spans_any A' c' l B' d' t W h1 hz h2 h3 hzt hsl hkr hst hpl).mono (by
    rintro e w' ⟨P, v, hg, rfl, h4, h5⟩
    obtain ⟨As, cs, rfl, h6, h7⟩ := Kd.R_reads h4
    exact ⟨P, As, cs, hg, rfl, h6, h7, h5⟩)
  have HRS : Hid (∀ W A' c' P, GoodP t P → k99.C W A' l.length l → k76.C W B t.length t → Calls Try.prog 29 #[LG (.slice A' l.length c'), .slice B t.length d] W fun e w' => ∃ As cs, e = .returned (.slice As (spansS l t P).length cs) ∧ (spansS l t P).length ≤ cs ∧ k72.C w' As (spansS l t P).length (spansS l t P) ∧ Below W.heap.size W w') := fun W A' c' P hg h1 h2 => (refSpans_any A' c' l B d t P W h1 hz h2 hd hzt hg).mono (by
    rintro e w' ⟨v, rfl, h4, h5⟩
    obtain ⟨As, cs, rfl, h6, h7⟩ := Kd.R_reads h4
    exact ⟨As, cs, rfl, h6, h7, h5⟩)
  have HSS : Hid (∀ W A1 c1 A2 c2 (s : List S72), s.length ≤ 4194304 → k72.C W A1 s.length s → s.length ≤ c1 → k72.C W A2 s.length s → s.length ≤ c2 → Calls Try.prog 28 #[.slice A1 s.length c1, .slice A2 s.length c2] W fun e w' => e = .returned (.bool true) ∧ Below W.heap.size W w') := fun W A1 c1 A2 c2 s h0 h1 h2 h3 h4 => by
    obtain ⟨k, hk⟩ := (sameSpans_ev h0).rounds
    refine (trellislaw21_sameSpans.calls k A1 c1 s A2 c2 s true W h1 h2 h3 h4 hk).mono ?_
    rintro e w' ⟨rfl, h⟩
    exact ⟨rfl, h.below⟩
  have HSN : Hid (∀ W A1 d1, k76.C W A1 t.length t → t.length ≤ d1 → k76.C W B t.length t → Calls Try.prog 24 #[.slice A1 t.length d1, .slice B t.length d] W fun e w' => e = .returned (.bool true) ∧ Below W.heap.size W w') := fun W A1 d1 h1 h2 h3 => (trellislaw21_sameNodes.calls ks A1 d1 t B d t true W h1 h2 h3 hd hks).mono (by
    rintro e w' ⟨rfl, h⟩
    exact ⟨rfl, h.below⟩)
  have HLEN : Hid (∀ P, GoodP t P → (spansS l t P).length ≤ 4194304) := fun P hg => by
    have h1 := hg.len
    have h2 := spansGo_len (classAll l t) P []
    show (spansGo (classAll l t) [] P).length ≤ _
    simp only [List.length_nil] at h2; omega
  clear hr hrt hkb hks hsl hkr hst hb hpl
  go_enter Try.func7, Try.ntmps7
  have tok : True := trivial
  go_wp2_with fail
  refine HB1.out.mono ?_
  rintro e W1 ⟨rfl, hbel⟩
  have HB1' := Lib.hid hbel
  clear hbel HB1
  cases rb with
  | true =>
    go_wp2_with fail
    go_ret
    exact ⟨rfl, HB1'.out⟩
  | false =>
    go_wp2_with fail
    refine (HTW.out W1 (Kd.C_below HRT.out HB1'.out)).mono ?_
    rintro e W2 ⟨A1, d1, rfl, hd1, hC1, hbel⟩
    have HC1 := Lib.hid hC1
    have HB2 := Lib.hid (below_step HB1'.out hbel)
    clear hC1 hbel
    go_wp2_with fail
    refine (HLA.out W2 (Kd.C_below HR.out HB2.out)).mono ?_
    rintro e W3 ⟨A2, c2, rfl, hc2, hC2, hbel⟩
    have HC2 := Lib.hid hC2
    have HC1' := Lib.hid (Kd.C_below HC1.out hbel)
    have HB3 := Lib.hid (below_step HB2.out hbel)
    clear hC2 hbel
    unfold LG at *
    go_wp2_with fail
    refine (HSP.out W3 A2 c2 A1 d1 HC2.out HC1'.out hd1).mono ?_
    rintro e W4 ⟨P, As, cs, hg, rfl, hcs, hCs, hbel⟩
    have HG := Lib.hid hg
    have hsl := HLEN.out P hg
    have HRS' := Lib.hid (fun W A' c' => HRS.out W A' c' P hg)
    generalize spansS l t P = s at *
    have HCS := Lib.hid hCs
    have HC1'' := Lib.hid (Kd.C_below HC1'.out hbel)
    have HB4 := Lib.hid (below_step HB3.out hbel)
    clear hbel hCs hg HLEN
    go_wp2_with fail
    refine (HLA.out W4 (Kd.C_below HR.out HB4.out)).mono ?_
    rintro e W5 ⟨A3, c3, rfl, hc3, hC3, hbel⟩
    have HC3 := Lib.hid hC3
    have HC1_5 := Lib.hid (Kd.C_below HC1''.out hbel)
    have HCS5 := Lib.hid (Kd.C_below HCS.out hbel)
    have HB5 := Lib.hid (below_step HB4.out hbel)
    clear hC3 hbel
    go_wp2_with fail
    refine (HRS'.out W5 A3 c3 HC3.out (Kd.C_below HRT.out HB5.out)).mono ?_
    rintro e W6 ⟨Ar, cr, rfl, hcr, hCr, hbel⟩
    have HCR6 := Lib.hid hCr
    have HCS6 := Lib.hid (Kd.C_below HCS5.out hbel)
    have HC1_6 := Lib.hid (Kd.C_below HC1_5.out hbel)
    have HB6 := Lib.hid (below_step HB5.out hbel)
    clear hbel hCr
    go_wp2_with fail
    refine (HSS.out W6 As cs Ar cr s hsl HCS6.out hcs HCR6.out hcr).mono ?_
    rintro e W7 ⟨rfl, hbel⟩
    have HC1_7 := Lib.hid (Kd.C_below HC1_6.out hbel)
    have HB7 := Lib.hid (below_step HB6.out hbel)
    clear hbel
    go_wp2_with fail
    refine (HSN.out W7 A1 d1 HC1_7.out hd1 (Kd.C_below HRT.out HB7.out)).mono ?_
    rintro e W8 ⟨rfl, hbel⟩
    have HB8 := Lib.hid (below_step HB7.out hbel)
    clear hbel
    go_wp2_with fail
    go_ret
    exact ⟨rfl, HB8.out⟩
end Paint
end Go.Proofs.Ytcijanmckhlpiaa
