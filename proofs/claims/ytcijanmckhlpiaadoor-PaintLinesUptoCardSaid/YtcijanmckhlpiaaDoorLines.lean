import Derived.Test.YtcijanmckhlpiaaDoorCalled
import Derived.Test.YtcijanmckhlpiaaDoorSpansSame
namespace Go.Proofs.YtcijanmckhlpiaaDoor
open Go.RowKit Go.Proofs.YtcijanmckhlpiaaDoorW.PrintWords Go.Proofs.YtcijanmckhlpiaaDoorW.PrintLast Go.Proofs.YtcijanmckhlpiaaDoorW.PrintMore Go.Proofs.YtcijanmckhlpiaaDoor.PPaintLines
set_option linter.unusedVariables false
set_option linter.unusedSimpArgs false
namespace Paint
theorem stopL_ {p : Prop} (h : Hid p) : p := h.out
def NOk (x : S100) : Prop := x.f5 ≤ 9223372036854775807 ∧ x.f0.size ≤ maxLen ∧ (Lit.int .i64 x.f3).wf = true ∧ (Lit.int .i64 x.f4).wf = true
theorem has_take {os : List PD} {k : Nat} (hk : k < os.length) (s : ByteArray) : hasName (os.take (k + 1)) s = (hasName (os.take k) s || ((rdP os (k : Int)).1.toList == s.toList)) := by
  unfold hasName
  rw [List.take_succ_eq_append_getElem hk, List.any_append, rdP_get os k hk]
  simp
theorem once_take {l : List PD} {i : Nat} (hi : i < l.length) : onceS (l.take (i + 1)) = onceStep (onceS (l.take i)) (rdP l (i : Int)) := by
  rw [List.take_succ_eq_append_getElem hi, onceS_snoc, rdP_get l i hi]
theorem C_onePD {W : World} {b : Nat} {x : PD} (h : W.heap[b]? = some (Obj.cells #[.string x.1, .string x.2] 42 (0, 0))) : kPD.C W (some ⟨b, 0, none⟩) 1 [x] := by
  refine ⟨rfl, by decide, fun _ => ⟨⟨b, 0, none⟩, rfl, fun j y hj => ?_⟩⟩
  match j with
  | 0 =>
    simp at hj
    subst hj
    refine ⟨[.string x.1, .string x.2], rfl, ⟨_, _, rfl, rfl, rfl⟩, fun k u hu => ?_⟩
    rw [add_plain]
    refine (blk_cell h _).trans ?_
    match k with
    | 0 => exact hu
    | 1 => exact hu
    | k + 2 => simp at hu
  | j + 1 => simp at hj
theorem rev_drop {os : List PD} {m : Nat} (hm : m < os.length) : (os.drop (m + 1)).reverse ++ [rdP os (m : Int)] = (os.drop m).reverse := by
  rw [List.drop_eq_getElem_cons hm, List.reverse_cons, rdP_get os m hm]
theorem map_take {os : List PD} (f : PD → PD) {i : Nat} (hi : i < os.length) : (os.take i).map f ++ [f (rdP os (i : Int))] = (os.take (i + 1)).map f := by
  rw [List.take_succ_eq_append_getElem hi, List.map_append, rdP_get os i hi]; rfl
/-- A row that is older than a block does not feel what is stored there. -/
theorem R_older {α : Type} {dd : Kd α} {e base : Nat} {ok : Nat → Prop} {W W1 : World} {v : Value} {xs : List α} (h : dd.R e W base ok v xs) (hb : Below W.heap.size W W1) {g j : Nat} (hg : W.heap.size ≤ g) (u : Value) : dd.R e (W1.setCell ⟨g, j, none⟩ u) base ok v xs :=
  Kd.R_mono (Kd.R_far (p := ⟨g, j, none⟩) (Kd.R_below (Kd.R_mono (Kd.R_bound h) (fun k hk => ⟨hk.1, hk.2.2.1⟩) : dd.R e W base (fun k => ok k ∧ k < W.heap.size) v xs) hb) (fun k hk => by show k ≠ g; omega) u) (fun _ hk => hk.1)
theorem GoodP.lenS {t : List S100} {P : List Int} (h : GoodP t P) (ht : t.length ≤ 1048576) (l : List PD) : (spansS l t P).length ≤ 4194304 := by
  have h1 : P.Nodup := h.up.imp fun {a b} (hab : a < b) => by omega
  have h2 : P ⊆ 0 :: plc t := fun x hx => by
    rcases (h.mem x).1 hx with e | e
    · simp [e]
    · simp [e.2]
  have h3 := h1.length_le_of_subset h2
  rw [List.length_cons, plc_len] at h3
  have h4 := spansGo_len (classAll l t) P []
  show (spansGo (classAll l t) [] P).length ≤ _
  simp only [List.length_nil] at h4; omega
set_option maxRecDepth 100000 in
set_option maxHeartbeats 8000000 in
theorem paintLines_any (A : Option Addr) (c : Nat) (l : List PD) (B : Option Addr) (d : Nat) (t : List S100) (w : World) (hr : kPD.C w A l.length l) (hlc : l.length ≤ c) (hz : l.length ≤ 1048576) (hrt : k100.C w B t.length t) (hd : t.length ≤ d) (hzt : t.length ≤ 1048576)
    (hsl : ∀ x ∈ l, x.1.size ≤ maxLen) (hok : ∀ x ∈ t, NOk x) (htab : Tab w) :
    Calls Tryd.prog 4 #[.slice A l.length c, .slice B t.length d] w fun e w' => e = .returned (.bool true) ∧ Below w.heap.size w w' := by
  have HR := Lib.hid hr
  have HRT := Lib.hid hrt
  have HTB := Lib.hid htab
  obtain ⟨rb, hb⟩ := Beyond_ev hzt
  obtain ⟨kb, hkb⟩ := hb.rounds
  have HBY : Hid (∀ W, k100.C W B t.length t → Calls Tryd.prog 14 #[.slice B t.length d] W fun e w' => e = .returned (.bool rb) ∧ Below W.heap.size W w') := fun W h => trellisref15_Beyond.calls kb B d t rb W h hd hkb
  have HLA : Hid (∀ W A' c' (m : List PD), m.length ≤ l.length → kPD.C W A' m.length m → Calls Tryd.prog 17 #[.slice A' m.length c'] W fun e w' => ∃ A2 c2, e = .returned (LG (.slice A2 m.length c2)) ∧ m.length ≤ c2 ∧ kPD.C w' A2 m.length m ∧ Below W.heap.size W w') := fun W A' c' m hm h => lang_any A' c' m W h (by omega)
  have HSP : Hid (∀ W (m : List PD) A' c', m.length ≤ l.length → (∀ x ∈ m, x.1.size ≤ maxLen) → kPD.C W A' m.length m → k100.C W B t.length t → Calls Tryd.prog 16 #[LG (.slice A' m.length c'), .slice B t.length d] W fun e w' => ∃ P A1 c1, GoodP t P ∧ e = .returned (.slice A1 (spansS m t P).length c1) ∧ k61.R 61 w' W.heap.size tru (.slice A1 (spansS m t P).length c1) (spansS m t P) ∧ Below W.heap.size W w') := fun W m A' c' hm hs h1 h2 => by
    refine (spans_any A' c' m B d t W h1 (by omega) h2 hd hzt hs (fun x hx => (hok x hx).1) (fun x hx => (hok x hx).2.1) (fun x hx => (hok x hx).2.2)).mono ?_
    rintro e w' ⟨P, v, hg, rfl, h4, h5⟩
    obtain ⟨As, cs, rfl, _, _⟩ := Kd.R_reads h4
    exact ⟨P, As, cs, hg, rfl, h4, h5⟩
  have HSS : Hid (∀ W A1 c1 A2 c2 (s : List S61), s.length ≤ 4194304 → k61.C W A1 s.length s → s.length ≤ c1 → k61.C W A2 s.length s → s.length ≤ c2 → Calls Tryd.prog 18 #[.slice A1 s.length c1, .slice A2 s.length c2] W fun e w' => e = .returned (.bool true) ∧ Below W.heap.size W w') := fun W A1 c1 A2 c2 s h0 h1 h2 h3 h4 => by
    obtain ⟨k, hk⟩ := (sameSpans_ev h0).rounds
    refine (trellislaw21_sameSpans.calls k A1 c1 s A2 c2 s true W h1 h2 h3 h4 hk).mono ?_
    rintro e w' ⟨rfl, h⟩
    exact ⟨rfl, h.below⟩
  have HSL := Lib.hid hsl
  clear hr hrt hkb hsl hok hb htab
  go_enter Tryd.func4, Tryd.ntmps4
  have tok : True := trivial
  go_wp2_with fail
  refine (awake_any w).mono ?_
  rintro e W1 ⟨rfl, hbel⟩
  have HB1 := Lib.hid hbel
  clear hbel
  go_wp2_with fail
  refine (HBY.out W1 (Kd.C_below HRT.out HB1.out)).mono ?_
  rintro e W2 ⟨rfl, hbel⟩
  have HB2 := Lib.hid (below_step HB1.out hbel)
  clear hbel HB1 HBY
  cases rb with
  | true =>
    go_wp2_with fail
    go_ret
    exact ⟨rfl, HB2.out⟩
  | false =>
    go_wp2_with fail
    have HO0 : Hid (kPD.R 42 W2 w.heap.size tru (.slice none 0 0) (onceS (l.take 0))) := Kd.R_nil _ _ _ _ _
    go_loopw [6, 5] (fun v vo w' => ∃ i : Nat, v = .int .i64 (i : Int) ∧ i ≤ l.length ∧ Hid (Below w.heap.size w w') ∧ Hid (kPD.R 42 w' w.heap.size tru vo (onceS (l.take i)))) (fun v _ _ => l.length - (intOf v).toNat)
    case atStart => exact ⟨0, rfl, Nat.zero_le _, HB2, HO0⟩
    case round =>
      clear HO0 HB2
      obtain ⟨i, rfl, hi, HB, HO⟩ := hrel
      by_cases hil : i < l.length
      · obtain ⟨ad, rfl, g0, g1⟩ := at_P HR.out (i : Int) (by omega) (by omega)
        rw [Int.toNat_natCast] at g0 g1
        have hot := once_take hil
        have hosl : (onceS (l.take i)).length ≤ l.length := Nat.le_trans (onceS_len _) (by rw [List.length_take]; omega)
        generalize rdP l (i : Int) = x at *
        generalize onceS (l.take i) = os at *
        have HOT := Lib.hid hot
        have G0 := Lib.hid g0
        have G1 := Lib.hid g1
        have hib : decide ((i : Int) < (l.length : Int)) = true := decide_eq_true (by omega)
        have hi0 : (0 : Int) ≤ (i : Int) := by omega
        have hi1 : (i : Int) < (l.length : Int) := by omega
        have hiw : IntKind.i64.wrap ((i : Int) + 1) = (i : Int) + 1 := IntWalk.i64_in _ (by omega)
        obtain ⟨Ao, co, rfl⟩ := Kd.R_slice HO.out
        clear hot g0 g1
        go_wp2_with fail
        have HN0 : Hid (hasName (os.take 0) x.1 = false) := Lib.hid (by rw [List.take_zero]; rfl)
        go_loopw [8, 7] (fun v b w' => ∃ k : Nat, v = .int .i64 (k : Int) ∧ k ≤ os.length ∧ b = .bool (hasName (os.take k) x.1) ∧ Hid (Below w.heap.size w w') ∧ Hid (kPD.R 42 w' w.heap.size tru (.slice Ao os.length co) os)) (fun v _ _ => os.length - (intOf v).toNat)
        case atStart => exact ⟨0, rfl, Nat.zero_le _, by rw [HN0.out], HB, HO⟩
        case round =>
          clear HB HO HN0
          obtain ⟨k, rfl, hk, rfl, HB, HO⟩ := hrel
          have g0 := pw_cell_below HB.out G0.out
          have g1 := pw_cell_below HB.out G1.out
          by_cases hkl : k < os.length
          · obtain ⟨ad2, rfl, f0, f1⟩ := at_P (Kd.R_reads' HO.out).2.2 (k : Int) (by omega) (by omega)
            rw [Int.toNat_natCast] at f0 f1
            have hht := has_take hkl x.1
            generalize rdP os (k : Int) = y at *
            have HHT := Lib.hid hht
            have hkb : decide ((k : Int) < (os.length : Int)) = true := decide_eq_true (by omega)
            have hk0 : (0 : Int) ≤ (k : Int) := by omega
            have hk1 : (k : Int) < (os.length : Int) := by omega
            have hkw : IntKind.i64.wrap ((k : Int) + 1) = (k : Int) + 1 := IntWalk.i64_in _ (by omega)
            clear hht
            by_cases hth : hasName (os.take k) x.1 = true
            · have HTH := Lib.hid hth
              rw [hth]
              clear hth
              go_wp2_with fail
              go_quiet (fail)
              go_wp2_with fail
              go_roundw
              case rel => exact ⟨k + 1, by rw [Int.natCast_add]; rfl, by omega, by rw [HHT.out, HTH.out]; rfl, Lib.hid (pw_below_drewN HB.out _), Lib.hid (Kd.R_drewN HO.out _)⟩
              case measure => simp only [intOf]; omega
            · have hth2 : hasName (os.take k) x.1 = false := Bool.eq_false_iff.2 hth
              have HTH := Lib.hid hth2
              rw [hth2]
              clear hth hth2
              go_wp2_with fail
              go_quiet (fail)
              go_wp2_with fail
              go_roundw
              case rel => exact ⟨k + 1, by rw [Int.natCast_add]; rfl, by omega, by rw [HHT.out, HTH.out, Bool.false_or], Lib.hid (pw_below_drewN HB.out _), Lib.hid (Kd.R_drewN HO.out _)⟩
              case measure => simp only [intOf]; omega
          · obtain rfl : k = os.length := by omega
            have hkb : decide ((os.length : Int) < (os.length : Int)) = false := decide_eq_false (by omega)
            rw [List.take_length]
            by_cases hth : hasName os x.1 = true
            · have hos := HOT.out
              unfold onceStep at hos
              rw [if_pos hth] at hos
              have HOS := Lib.hid hos
              rw [hth]
              clear hth hos HOT
              go_wp2_with fail
              go_roundw
              case rel => exact ⟨i + 1, by rw [Int.natCast_add]; rfl, by omega, HB, by rw [HOS.out]; exact HO⟩
              case measure => simp only [intOf]; omega
            · have hth2 : hasName os x.1 = false := Bool.eq_false_iff.2 hth
              have hos := HOT.out
              unfold onceStep at hos
              rw [if_neg hth] at hos
              have HOS := Lib.hid hos
              have hbo : (os.length + 1) * 32 ≤ 140737488355328 := by omega
              rw [hth2]
              clear hth hth2 hos HOT
              have HOa := Lib.hid (Kd.R_alloc HO.out (.cells #[.string x.1, .string x.2] 42))
              have HLa := Lib.hid (blk_new wr (.cells #[.string x.1, .string x.2] 42))
              have HBa := Lib.hid (below_alloc HB.out (.cells #[.string x.1, .string x.2] 42))
              go_wp2_with ((with_reducible refine gate_builtin (b := .append) (xs := #[.tmp 49, .tmp 54]) rfl ?_); at_builtin; refine Kd.R_append_rows kPD (w0 := w) w.heap.size rfl (.tmp 49) (.tmp 54) 37 42 (.agg #[.string ⟨#[]⟩, .string ⟨#[]⟩]) 32 rfl Tryd.underlying37 infoPD rfl (by decide) (by omega) _ os [x] (some ⟨wr.heap.size, 0, none⟩) 1 1 tru (fun _ => False) rfl rfl HOa.out (C_onePD HLa.out) (fun _ _ h => h) (fun _ h => h.elim) (fun _ _ => trivial) HBa.out HBa.out.size hbo ?_; intro v1 w3 ho3 hb3 hg3 hat3)
              have HO3 := Lib.hid ho3
              have HB3 := Lib.hid hb3
              clear ho3 hb3 hg3 hat3
              go_wp2_with fail
              go_roundw
              case rel => exact ⟨i + 1, by rw [Int.natCast_add]; rfl, by omega, HB3, by rw [HOS.out]; exact HO3⟩
              case measure => simp only [intOf]; omega
      · obtain rfl : i = l.length := by omega
        rw [List.take_length] at HO
        have hib : decide ((l.length : Int) < (l.length : Int)) = false := decide_eq_false (by omega)
        have hosl : (onceS l).length ≤ l.length := onceS_len l
        obtain ⟨Ao, co, rfl⟩ := Kd.R_slice HO.out
        have hnw : IntKind.i64.wrap (((onceS l).length : Int) - 1) = ((onceS l).length : Int) - 1 := IntWalk.i64_in _ (by omega)
        have HLine := fun s => onceS_line s l
        have HLI := Lib.hid HLine
        have HUQ := Lib.hid (onceS_uniq l)
        have HSU : Hid (∀ x ∈ onceS l, x.1.size ≤ maxLen) := Lib.hid (fun x hx => HSL.out x (onceS_sub hx))
        clear HLine
        generalize onceS l = os at *
        go_wp2_with fail
        clear hnw hib
        have HO2 := Lib.hid (Kd.R_apart_nil HO.out)
        have HR0 : Hid (kPD.R 42 wr w.heap.size tru (.slice none 0 0) (os.drop os.length).reverse) := by rw [List.drop_length]; exact Kd.R_nil _ _ _ _ _
        go_loopw [11, 9] (fun v vr w' => ∃ j : Nat, v = .int .i64 ((j : Int) - 1) ∧ j ≤ os.length ∧ Hid (Below w.heap.size w w') ∧ Hid (kPD.R 42 w' w.heap.size (fun k => tru k ∧ some k ≠ vr.ownBlock) (.slice Ao os.length co) os) ∧ Hid (kPD.R 42 w' w.heap.size tru vr (os.drop j).reverse)) (fun v _ _ => (intOf v + 1).toNat)
        case atStart => exact ⟨os.length, rfl, Nat.le_refl _, HB, HO2, HR0⟩
        case round =>
          clear HB HO2 HR0 HO
          obtain ⟨j, rfl, hj, HB, HO, HRv⟩ := hrel
          rcases j with _ | m
          · rw [show ((0 : Nat) : Int) - 1 = -1 from rfl]
            have HRr : Hid (kPD.R 42 wr w.heap.size tru u9 os.reverse) := by have h := HRv.out; rw [List.drop_zero] at h; exact Lib.hid h
            clear HRv
            obtain ⟨Ar, cr, eR⟩ := Kd.R_slice HRr.out
            rw [List.length_reverse] at eR
            subst eR
            have HO2 := Lib.hid (Kd.R_apart_nil (Kd.R_drop HO.out))
            have HRr2 := Lib.hid (Kd.R_apart_nil HRr.out)
            have HX0 : Hid (kPD.R 42 wr w.heap.size tru (.slice none 0 0) ((os.take 0).map fun x => (x.1, calS os x.2))) := Kd.R_nil _ _ _ _ _
            clear HO HRr
            go_wp2_with fail
            go_loopw [12, 10] (fun v vx w' => ∃ i : Nat, v = .int .i64 (i : Int) ∧ i ≤ os.length ∧ Hid (Below w.heap.size w w') ∧ Hid (kPD.R 42 w' w.heap.size (fun k => tru k ∧ some k ≠ vx.ownBlock) (.slice Ao os.length co) os) ∧ Hid (kPD.R 42 w' w.heap.size (fun k => tru k ∧ some k ≠ vx.ownBlock) (.slice Ar os.length cr) os.reverse) ∧ Hid (kPD.R 42 w' w.heap.size tru vx ((os.take i).map fun x => (x.1, calS os x.2)))) (fun v _ _ => os.length - (intOf v).toNat)
            case atStart => exact ⟨0, rfl, Nat.zero_le _, HB, HO2, HRr2, HX0⟩
            case round =>
              clear HB HO2 HRr2 HX0
              obtain ⟨i, rfl, hi2, HB, HO, HRr, HX⟩ := hrel
              by_cases hin : i < os.length
              · obtain ⟨ad, rfl, f0, f1⟩ := at_P (Kd.R_reads' HO.out).2.2 (i : Int) (by omega) (by omega)
                rw [Int.toNat_natCast] at f0 f1
                have hmt := map_take (fun x => (x.1, calS os x.2)) hin
                generalize rdP os (i : Int) = x at *
                have HMT := Lib.hid hmt
                have hib : decide ((i : Int) < (os.length : Int)) = true := decide_eq_true (by omega)
                have hi0 : (0 : Int) ≤ (i : Int) := by omega
                have hi1 : (i : Int) < (os.length : Int) := by omega
                have hiw : IntKind.i64.wrap ((i : Int) + 1) = (i : Int) + 1 := IntWalk.i64_in _ (by omega)
                have hbo : (((os.take i).map fun x => (x.1, calS os x.2)).length + 1) * 32 ≤ 140737488355328 := by simp; omega
                have HBO := Lib.hid hbo
                clear hmt hbo
                go_wp2_with fail
                have HTa : Hid (Tab (wr.alloc (.cells #[.string x.1, .string x.2] 42))) := Lib.hid (HTB.out.below (below_alloc HB.out _))
                have HCa := Lib.hid (Kd.R_reads' (Kd.R_alloc HO.out (.cells #[.string x.1, .string x.2] 42))).2.2
                refine (called_any (some ad) co os x.2 _ HCa.out (by omega) HTa.out).mono ?_
                rintro e w5 ⟨rfl, hb5⟩
                have HB5 := Lib.hid (below_step (below_alloc HB.out _) hb5)
                have hbw : Below wr.heap.size wr w5 := below_step (below_alloc (Below.refl _ wr) _) hb5
                have HX5 := Lib.hid (blk_below (blk_new wr (.cells #[.string x.1, .string x.2] 42)) hb5)
                have HOs := Lib.hid (R_older (g := wr.heap.size) (j := 1) HO.out hbw (Nat.le_refl _) (.string (calS os x.2)))
                have HRs := Lib.hid (R_older (g := wr.heap.size) (j := 1) HRr.out hbw (Nat.le_refl _) (.string (calS os x.2)))
                have HXs := Lib.hid (R_older (g := wr.heap.size) (j := 1) HX.out hbw (Nat.le_refl _) (.string (calS os x.2)))
                have HBs : Hid (Below w.heap.size w (w5.setCell ⟨wr.heap.size, 1, none⟩ (.string (calS os x.2)))) := Lib.hid (below_set HB5.out HB.out.size)
                have q0 := blk_cell HX5.out 0
                have q1 := blk_cell HX5.out 1
                have qf := blk_frozen HX5.out 1
                simp at q0 q1
                have HOa := Lib.hid (Kd.R_alloc HOs.out (.cells #[.string x.1, .string (calS os x.2)] 42))
                have HRa := Lib.hid (Kd.R_alloc HRs.out (.cells #[.string x.1, .string (calS os x.2)] 42))
                have HXa := Lib.hid (Kd.R_alloc HXs.out (.cells #[.string x.1, .string (calS os x.2)] 42))
                have HBa := Lib.hid (below_alloc HBs.out (.cells #[.string x.1, .string (calS os x.2)] 42))
                have hLa := blk_new (w5.setCell ⟨wr.heap.size, 1, none⟩ (.string (calS os x.2))) (.cells #[.string x.1, .string (calS os x.2)] 42)
                rw [show (w5.setCell ⟨wr.heap.size, 1, none⟩ (.string (calS os x.2))).heap.size = w5.heap.size by simp [World.setCell]] at hLa
                have HLa : Hid (kPD.C ((w5.setCell ⟨wr.heap.size, 1, none⟩ (.string (calS os x.2))).alloc (.cells #[.string x.1, .string (calS os x.2)] 42)) (some ⟨w5.heap.size, 0, none⟩) 1 [((x.1, calS os x.2) : PD)]) := Lib.hid (C_onePD (x := (x.1, calS os x.2)) hLa)
                clear hb5 hbw hLa HO HRr HX HB f0 f1 HTa HCa HOs HRs HXs HBs HB5
                go_wp2_with ((with_reducible refine gate_builtin (b := .append) (xs := #[.tmp 85, .tmp 87]) rfl ?_); at_builtin; refine Kd.R_append_rows kPD (Rr := kPD.K ((w5.setCell ⟨wr.heap.size, 1, none⟩ (.string (calS os x.2))).alloc (.cells #[.string x.1, .string (calS os x.2)] 42))) (w0 := w) w.heap.size rfl (.tmp 85) (.tmp 87) 37 42 (.agg #[.string ⟨#[]⟩, .string ⟨#[]⟩]) 32 rfl Tryd.underlying37 infoPD rfl (by decide) (by omega) _ ((os.take i).map fun x => (x.1, calS os x.2)) [((x.1, calS os x.2) : PD)] (some ⟨w5.heap.size, 0, none⟩) 1 1 tru (fun _ => False) rfl ?hx ?HO ?HR ?hKM (fun _ h => h.elim) (fun _ _ => trivial) ?HB ?hb ?hl ?_; (case hx => rfl); (case HO => exact HXa.out); (case HR => exact HLa.out); (case hKM => exact (fun _ _ h => h)); (case HB => exact HBa.out); (case hb => exact HBa.out.size); (case hl => exact HBO.out); intro v1 w6 ho6 hb6 hg6 hat6)
                have HO6 := Lib.hid (Kd.R_after HOa.out hg6 hat6)
                have HR6 := Lib.hid (Kd.R_after HRa.out hg6 hat6)
                have HX6 : Hid (kPD.R 42 w6 w.heap.size tru v1 ((os.take (i + 1)).map fun x => (x.1, calS os x.2))) := by rw [← HMT.out]; exact ho6
                have HB6 := Lib.hid hb6
                clear ho6 hb6 hg6 hat6
                go_wp2_with fail
                go_roundw
                case rel => exact ⟨i + 1, by rw [Int.natCast_add]; rfl, by omega, HB6, HO6, HR6, HX6⟩
                case measure => simp only [intOf]; omega
              · obtain rfl : i = os.length := by omega
                have hib : decide ((os.length : Int) < (os.length : Int)) = false := decide_eq_false (by omega)
                rw [List.take_length] at HX
                obtain ⟨Ax, cx, eX⟩ := Kd.R_slice HX.out
                rw [List.length_map] at eX
                subst eX
                have HOn := Lib.hid (Kd.R_drop HO.out)
                have HRn := Lib.hid (Kd.R_drop HRr.out)
                have HXn : Hid (kPD.R 42 wr w.heap.size tru (.slice Ax os.length cx) (otherS os)) := HX
                clear HO HRr HX
                unfold LG at *
                go_wp2_with fail
                refine (HLA.out wr A c l (Nat.le_refl _) (Kd.C_below HR.out HB.out)).mono ?_
                rintro e W3 ⟨La, da, rfl, hda, hC, hbel⟩
                have HCa := Lib.hid hC
                have HO3 := Lib.hid (Kd.R_below HOn.out hbel)
                have HR3 := Lib.hid (Kd.R_below HRn.out hbel)
                have HX3 := Lib.hid (Kd.R_below HXn.out hbel)
                have HB3 := Lib.hid (below_step HB.out hbel)
                clear hC hbel HOn HRn HXn HB
                go_wp2_with fail
                refine (HSP.out W3 l La da (Nat.le_refl _) HSL.out HCa.out (Kd.C_below HRT.out HB3.out)).mono ?_
                rintro e W4 ⟨P, As, cs, hga, rfl, hRs, hbel⟩
                have HUP : Hid (∀ Q, GoodP t Q → Q = P) := Lib.hid (fun Q h => h.uniq hga)
                have hln := hga.lenS hzt l
                have HS4 := Lib.hid hRs
                have HO4 := Lib.hid (Kd.R_below HO3.out hbel)
                have HR4 := Lib.hid (Kd.R_below HR3.out hbel)
                have HX4 := Lib.hid (Kd.R_below HX3.out hbel)
                have HB4 := Lib.hid (below_step HB3.out hbel)
                have e1 : ∀ Q, GoodP t Q → spansS os t Q = spansS l t P := fun Q h => by rw [HUP.out Q h]; exact spansS_congr HLI.out t P
                have e2 : ∀ Q, GoodP t Q → spansS os.reverse t Q = spansS l t P := fun Q h => by rw [HUP.out Q h]; exact spansS_congr (fun s => (uniq_reverse HUQ.out s).trans (HLI.out s)) t P
                have e3 : ∀ Q, GoodP t Q → spansS (otherS os) t Q = (spansS l t P).map (ren os) := fun Q h => by rw [HUP.out Q h, spansS_other]; rw [spansS_congr HLI.out t P]
                have E1 := Lib.hid e1
                have E2 := Lib.hid e2
                have E3 := Lib.hid e3
                have HBs4 := Lib.hid HB3.out.size
                clear hRs hbel HO3 HR3 HX3 HB3 HCa hga e1 e2 e3
                generalize spansS l t P = sp at *
                go_wp2_with fail
                refine (HLA.out W4 Ao co os hosl (Kd.R_reads' HO4.out).2.2).mono ?_
                rintro e W5 ⟨Lb, db, rfl, hdb, hC, hbel⟩
                have HCb := Lib.hid hC
                have HO5 := Lib.hid (Kd.R_below HO4.out hbel)
                have HR5 := Lib.hid (Kd.R_below HR4.out hbel)
                have HX5 := Lib.hid (Kd.R_below HX4.out hbel)
                have HS5 := Lib.hid (Kd.R_below HS4.out hbel)
                have HB5 := Lib.hid (below_step HB4.out hbel)
                clear hC hbel HO4 HR4 HX4 HS4 HB4
                go_wp2_with fail
                refine (HSP.out W5 os Lb db hosl HSU.out HCb.out (Kd.C_below HRT.out HB5.out)).mono ?_
                rintro e W6 ⟨Q, As2, cs2, hgb, rfl, hRs, hbel⟩
                have eQ := E1.out Q hgb
                rw [eQ] at hRs
                rw [eQ]
                obtain ⟨_, u1, u2⟩ := Kd.R_reads' hRs
                obtain ⟨_, u3, u4⟩ := Kd.R_reads' (Kd.R_below HS5.out hbel)
                have HSM := Lib.hid (HSS.out W6 As2 cs2 As cs sp hln u2 u1 u4 u3)
                have HO6 := Lib.hid (Kd.R_below HO5.out hbel)
                have HR6 := Lib.hid (Kd.R_below HR5.out hbel)
                have HX6 := Lib.hid (Kd.R_below HX5.out hbel)
                have HS6 := Lib.hid (Kd.R_below HS5.out hbel)
                have HB6 := Lib.hid (below_step HB5.out hbel)
                clear hRs hbel HO5 HR5 HX5 HS5 HB5 HCb hgb eQ u1 u2 u3 u4
                go_wp2_with fail
                refine HSM.out.mono ?_
                rintro e W7 ⟨rfl, hbel⟩
                have HO7 := Lib.hid (Kd.R_below HO6.out hbel)
                have HR7 := Lib.hid (Kd.R_below HR6.out hbel)
                have HX7 := Lib.hid (Kd.R_below HX6.out hbel)
                have HS7 := Lib.hid (Kd.R_below HS6.out hbel)
                have HB7 := Lib.hid (below_step HB6.out hbel)
                have HLb := HLA.out W7 Ar cr os.reverse (by rw [List.length_reverse]; exact hosl) (by have h := (Kd.R_reads' HR7.out).2.2; exact h)
                rw [List.length_reverse] at HLb
                have HLB := Lib.hid HLb
                clear hbel HO6 HR6 HX6 HS6 HB6 HSM HLb
                go_wp2_with fail
                refine HLB.out.mono ?_
                rintro e W8 ⟨Lc, dc, rfl, hdc, hC, hbel⟩
                have hSPc := HSP.out W8 os.reverse Lc dc (by rw [List.length_reverse]; exact hosl) (fun x hx => HSU.out x (List.mem_reverse.1 hx)) (by rw [List.length_reverse]; exact hC) (Kd.C_below HRT.out (below_step HB7.out hbel))
                rw [List.length_reverse] at hSPc
                have HSPc := Lib.hid hSPc
                have HO8 := Lib.hid (Kd.R_below HO7.out hbel)
                have HX8 := Lib.hid (Kd.R_below HX7.out hbel)
                have HS8 := Lib.hid (Kd.R_below HS7.out hbel)
                have HB8 := Lib.hid (below_step HB7.out hbel)
                clear hC hbel HO7 HR7 HX7 HS7 HB7 HLB hSPc
                go_wp2_with fail
                refine HSPc.out.mono ?_
                rintro e W9 ⟨Q2, As3, cs3, hgb, rfl, hRs, hbel⟩
                have eQ := E2.out Q2 hgb
                rw [eQ] at hRs
                rw [eQ]
                obtain ⟨_, u1, u2⟩ := Kd.R_reads' hRs
                obtain ⟨_, u3, u4⟩ := Kd.R_reads' (Kd.R_below HS8.out hbel)
                have HSM := Lib.hid (HSS.out W9 As3 cs3 As cs sp hln u2 u1 u4 u3)
                have HO9 := Lib.hid (Kd.R_below HO8.out hbel)
                have HX9 := Lib.hid (Kd.R_below HX8.out hbel)
                have HS9 := Lib.hid (Kd.R_below HS8.out hbel)
                have HB9 := Lib.hid (below_step HB8.out hbel)
                clear hRs hbel HO8 HX8 HS8 HB8 HSPc hgb eQ u1 u2 u3 u4
                go_wp2_with fail
                refine HSM.out.mono ?_
                rintro e W10 ⟨rfl, hbel⟩
                have HO10 := Lib.hid (Kd.R_below HO9.out hbel)
                have HX10 := Lib.hid (Kd.R_below HX9.out hbel)
                have HS10 := Lib.hid (Kd.R_below HS9.out hbel)
                have HB10 := Lib.hid (below_step HB9.out hbel)
                have hlo : (otherS os).length = os.length := List.length_map _
                have hLx := HLA.out W10 Ax cx (otherS os) (by rw [hlo]; exact hosl) (by have h := (Kd.R_reads' HX10.out).2.2; exact h)
                rw [hlo] at hLx
                have HLX := Lib.hid hLx
                clear hbel HO9 HX9 HS9 HB9 HSM hLx
                have HLO := Lib.hid hlo
                clear hlo
                go_wp2_with fail
                refine HLX.out.mono ?_
                rintro e W11 ⟨Ld, dd, rfl, hdd, hC, hbel⟩
                have hSPd := HSP.out W11 (otherS os) Ld dd (by rw [HLO.out]; exact hosl) (fun x hx => by
                  obtain ⟨y, hy, rfl⟩ := List.mem_map.1 hx
                  exact HSU.out y hy) (by rw [HLO.out]; exact hC) (Kd.C_below HRT.out (below_step HB10.out hbel))
                rw [HLO.out] at hSPd
                have HSPd := Lib.hid hSPd
                have HO11 := Lib.hid (Kd.R_below HO10.out hbel)
                have HS11 := Lib.hid (Kd.R_below HS10.out hbel)
                have HB11 := Lib.hid (below_step HB10.out hbel)
                clear hC hbel HO10 HX10 HS10 HB10 HLX hSPd
                go_wp2_with fail
                refine HSPd.out.mono ?_
                rintro e W12 ⟨Q3, Au, cu, hgb, rfl, hRs, hbel⟩
                have eQ := E3.out Q3 hgb
                rw [eQ, List.length_map] at hRs
                rw [eQ, List.length_map]
                have HU12 := Lib.hid hRs
                have HO12 := Lib.hid (Kd.R_below HO11.out hbel)
                have HS12 := Lib.hid (Kd.R_below HS11.out hbel)
                have HB12 := Lib.hid (below_step HB11.out hbel)
                have hs12 := HB11.out.size
                clear hRs hbel HO11 HS11 HB11 HSPd hgb eQ
                have hlb : ((sp.length : Int) != (sp.length : Int)) = false := by simp
                go_wp2_with fail
                have HU13 := Lib.hid (Kd.R_lower HU12.out hs12)
                have HS13 := Lib.hid (Kd.R_lower HS12.out (show w.heap.size ≤ _ from HBs4.out))
                have HO13 : Hid (kPD.R 42 W12 w.heap.size tru (.slice Ao os.length co) os) := HO12
                have HB13 := Lib.hid HB12.out
                clear HU12 HS12 HO12 HB12
                go_loopw [16] (fun v w' => ∃ i : Nat, v = .int .i64 (i : Int) ∧ i ≤ sp.length ∧ Hid (Below w.heap.size w w') ∧ Hid (k61.R 61 w' w.heap.size tru (.slice Au sp.length cu) (sp.map (ren os))) ∧ Hid (k61.R 61 w' w.heap.size tru (.slice As sp.length cs) sp) ∧ Hid (kPD.R 42 w' w.heap.size tru (.slice Ao os.length co) os)) (fun v _ => sp.length - (intOf v).toNat)
                case atStart => exact ⟨0, rfl, Nat.zero_le _, HB13, HU13, HS13, HO13⟩
                case round =>
                  clear HB13 HU13 HS13 HO13
                  obtain ⟨i, rfl, hi, HB, HU, HS, HO⟩ := hrel
                  by_cases hil : i < sp.length
                  · have hul : (sp.map (ren os)).length = sp.length := List.length_map _
                    have hu := Kd.R_reads' HU.out
                    rw [hul] at hu
                    obtain ⟨ads, rfl, hs0, hs1, hs2⟩ := at_T61 (Kd.R_reads' HS.out).2.2 (i : Int) (by omega) (by omega)
                    obtain ⟨adu, rfl, hu0, hu1, hu2⟩ := at_T61 hu.2.2 (i : Int) (by omega) (by omega)
                    rw [rd_map os sp i hil] at hu0 hu1 hu2
                    have hCL := called_any Ao co os (rd_T61 sp (i : Int)).f2 wr.drew (Kd.R_reads' (Kd.R_drew HO.out)).2.2 (by omega) (HTB.out.below HB.out.drew)
                    simp only [ren] at hu0 hu1 hu2
                    generalize rd_T61 sp (i : Int) = x at *
                    rw [Int.toNat_natCast] at hs0 hs1 hs2 hu0 hu1 hu2
                    have hib : decide ((i : Int) < (sp.length : Int)) = true := decide_eq_true (by omega)
                    have hi0 : (0 : Int) ≤ (i : Int) := by omega
                    have hi1 : (i : Int) < (sp.length : Int) := by omega
                    have hiw : IntKind.i64.wrap ((i : Int) + 1) = (i : Int) + 1 := IntWalk.i64_in _ (by omega)
                    have q0 : (x.f0 != x.f0) = false := by simp
                    have q1 : (x.f1 != x.f1) = false := by simp
                    have q2 : ((calS os x.f2).toList == (calS os x.f2).toList) = true := by simp
                    have q3 : ((calS os x.f2).toList != (calS os x.f2).toList) = false := by simp
                    have HCL := Lib.hid hCL
                    clear hu hul hCL
                    go_wp2_with fail
                    refine start_ (n := 39) (S := fun w' => w'.cell? (ads.add (i * 3)) = some (.int .i64 x.f0) ∧ w'.cell? ⟨(ads.add (i * 3)).block, (ads.add (i * 3)).off + 1, none⟩ = some (.int .i64 x.f1) ∧ w'.cell? ⟨(ads.add (i * 3)).block, (ads.add (i * 3)).off + 2, none⟩ = some (.string x.f2) ∧ w'.cell? (adu.add (i * 3)) = some (.int .i64 x.f0) ∧ w'.cell? ⟨(adu.add (i * 3)).block, (adu.add (i * 3)).off + 1, none⟩ = some (.int .i64 x.f1) ∧ w'.cell? ⟨(adu.add (i * 3)).block, (adu.add (i * 3)).off + 2, none⟩ = some (.string (calS os x.f2))) (ds := []) #[false, false, false, false, false, false, false, false, false, false, false, false, false, false, false, false, false, false, false, false, false, false, false, false, false, false, false, false, false, false, false, false, false, false, false, false, false, false, false] (by kernel_rfl) rfl rfl ⟨hs0, hs1, hs2, hu0, hu1, hu2⟩ (fun hHeld => ?_)
                    refine pure_ (i := 0) (N := some 124) (v := ?_) (a' := ?_) #[true, false, false, false, false, false, false, false, false, false, false, false, false, false, false, false, false, false, false, false, false, false, false, false, false, false, false, false, false, false, false, false, false, false, false, false, false, false, false] rfl rfl (by kernel_rfl) (fun _ _ _ h => h) (Or.inl ⟨by rfl, ?_⟩) ?_ ?_
                    rotate_left
                    · intro w'
                      go_simp
                      with_reducible rfl
                    rotate_left
                    · simp only [Act.put, List.setIfInBounds_toArray, List.set_cons_zero, List.set_cons_succ, i64_w, i32_w]
                      rfl
                    refine pure_ (i := 1) (N := some 125) (v := ?_) (a' := ?_) #[true, true, false, false, false, false, false, false, false, false, false, false, false, false, false, false, false, false, false, false, false, false, false, false, false, false, false, false, false, false, false, false, false, false, false, false, false, false, false] rfl rfl (by kernel_rfl) (fun _ _ _ h => h) (Or.inl ⟨by rfl, ?_⟩) ?_ ?_
                    rotate_left
                    · intro w'
                      go_simp
                      with_reducible rfl
                    rotate_left
                    · simp only [Act.put, List.setIfInBounds_toArray, List.set_cons_zero, List.set_cons_succ, i64_w, i32_w]
                      rfl
                    refine pure_ (i := 2) (N := some 126) (v := ?_) (a' := ?_) #[true, true, true, false, false, false, false, false, false, false, false, false, false, false, false, false, false, false, false, false, false, false, false, false, false, false, false, false, false, false, false, false, false, false, false, false, false, false, false] rfl rfl (by kernel_rfl) (fun _ _ _ h => h) (Or.inl ⟨by rfl, ?_⟩) ?_ ?_
                    rotate_left
                    · intro w'
                      go_simp
                      with_reducible rfl
                    rotate_left
                    · simp only [Act.put, List.setIfInBounds_toArray, List.set_cons_zero, List.set_cons_succ, i64_w, i32_w]
                      rfl
                    refine pure_ (i := 3) (N := some 127) (v := ?_) (a' := ?_) #[true, true, true, true, false, false, false, false, false, false, false, false, false, false, false, false, false, false, false, false, false, false, false, false, false, false, false, false, false, false, false, false, false, false, false, false, false, false, false] rfl rfl (by kernel_rfl) (fun _ _ _ h => h) (Or.inl ⟨by rfl, ?_⟩) ?_ ?_
                    rotate_left
                    · intro w'
                      go_simp
                      with_reducible rfl
                    rotate_left
                    · simp only [Act.put, List.setIfInBounds_toArray, List.set_cons_zero, List.set_cons_succ, i64_w, i32_w]
                      rfl
                    refine pure_ (i := 5) (N := some 129) (v := ?_) (a' := ?_) #[true, true, true, true, false, true, false, false, false, false, false, false, false, false, false, false, false, false, false, false, false, false, false, false, false, false, false, false, false, false, false, false, false, false, false, false, false, false, false] rfl rfl (by kernel_rfl) (fun _ _ _ h => h) (Or.inl ⟨by rfl, ?_⟩) ?_ ?_
                    rotate_left
                    · intro w'
                      go_simp
                      with_reducible rfl
                    rotate_left
                    · simp only [Act.put, List.setIfInBounds_toArray, List.set_cons_zero, List.set_cons_succ, i64_w, i32_w]
                      rfl
                    refine pure_ (i := 6) (N := some 130) (v := ?_) (a' := ?_) #[true, true, true, true, false, true, true, false, false, false, false, false, false, false, false, false, false, false, false, false, false, false, false, false, false, false, false, false, false, false, false, false, false, false, false, false, false, false, false] rfl rfl (by kernel_rfl) (fun _ _ _ h => h) (Or.inl ⟨by rfl, ?_⟩) ?_ ?_
                    rotate_left
                    · intro w'
                      go_simp
                      with_reducible rfl
                    rotate_left
                    · simp only [Act.put, List.setIfInBounds_toArray, List.set_cons_zero, List.set_cons_succ, i64_w, i32_w]
                      rfl
                    refine pure_ (i := 7) (N := some 131) (v := ?_) (a' := ?_) #[true, true, true, true, false, true, true, true, false, false, false, false, false, false, false, false, false, false, false, false, false, false, false, false, false, false, false, false, false, false, false, false, false, false, false, false, false, false, false] rfl rfl (by kernel_rfl) (fun _ _ _ h => h) (Or.inl ⟨by rfl, ?_⟩) ?_ ?_
                    rotate_left
                    · intro w'
                      go_simp
                      with_reducible rfl
                    rotate_left
                    · simp only [Act.put, List.setIfInBounds_toArray, List.set_cons_zero, List.set_cons_succ, i64_w, i32_w]
                      rfl
                    refine pure_ (i := 8) (N := some 132) (v := ?_) (a' := ?_) #[true, true, true, true, false, true, true, true, true, false, false, false, false, false, false, false, false, false, false, false, false, false, false, false, false, false, false, false, false, false, false, false, false, false, false, false, false, false, false] rfl rfl (by kernel_rfl) (fun _ _ _ h => h) (Or.inl ⟨by rfl, ?_⟩) ?_ ?_
                    rotate_left
                    · intro w'
                      go_simp
                      with_reducible rfl
                    rotate_left
                    · simp only [Act.put, List.setIfInBounds_toArray, List.set_cons_zero, List.set_cons_succ, i64_w, i32_w]
                      rfl
                    refine take_ (i := 4) (N := some 128) (v := ?_) (a' := ?_) #[true, true, true, true, true, true, true, true, true, false, false, false, false, false, false, false, false, false, false, false, false, false, false, false, false, false, false, false, false, false, false, false, false, false, false, false, false, false, false] rfl rfl (by kernel_rfl) (fun _ _ _ h => h) (Or.inl ⟨by rfl, ?_⟩) hHeld ?_ ?_
                    rotate_left
                    · rintro w' ⟨s0, s1, s2, s3, s4, s5⟩
                      go_simp
                      with_reducible rfl
                    rotate_left
                    · simp only [Act.put, List.setIfInBounds_toArray, List.set_cons_zero, List.set_cons_succ, i64_w, i32_w]
                      rfl
                    refine take_ (i := 9) (N := some 133) (v := ?_) (a' := ?_) #[true, true, true, true, true, true, true, true, true, true, false, false, false, false, false, false, false, false, false, false, false, false, false, false, false, false, false, false, false, false, false, false, false, false, false, false, false, false, false] rfl rfl (by kernel_rfl) (fun _ _ _ h => h) (Or.inl ⟨by rfl, ?_⟩) hHeld ?_ ?_
                    rotate_left
                    · rintro w' ⟨s0, s1, s2, s3, s4, s5⟩
                      go_simp
                      with_reducible rfl
                    rotate_left
                    · simp only [Act.put, List.setIfInBounds_toArray, List.set_cons_zero, List.set_cons_succ, i64_w, i32_w]
                      rfl
                    refine pure_ (i := 10) (N := some 134) (v := ?_) (a' := ?_) #[true, true, true, true, true, true, true, true, true, true, true, false, false, false, false, false, false, false, false, false, false, false, false, false, false, false, false, false, false, false, false, false, false, false, false, false, false, false, false] rfl rfl (by kernel_rfl) (fun _ _ _ h => h) (Or.inl ⟨by rfl, ?_⟩) ?_ ?_
                    rotate_left
                    · intro w'
                      go_simp
                      with_reducible rfl
                    rotate_left
                    · simp only [Act.put, List.setIfInBounds_toArray, List.set_cons_zero, List.set_cons_succ, i64_w, i32_w]
                      rfl
                    refine pure_ (i := 11) (N := some 135) (v := ?_) (a' := ?_) #[true, true, true, true, true, true, true, true, true, true, true, true, false, false, false, false, false, false, false, false, false, false, false, false, false, false, false, false, false, false, false, false, false, false, false, false, false, false, false] rfl rfl (by kernel_rfl) (fun _ _ _ h => h) (Or.inl ⟨by rfl, ?_⟩) ?_ ?_
                    rotate_left
                    · intro w'
                      go_simp
                      with_reducible rfl
                    rotate_left
                    · simp only [Act.put, List.setIfInBounds_toArray, List.set_cons_zero, List.set_cons_succ, i64_w, i32_w]
                      rfl
                    refine pure_ (i := 12) (N := some 136) (v := ?_) (a' := ?_) #[true, true, true, true, true, true, true, true, true, true, true, true, true, false, false, false, false, false, false, false, false, false, false, false, false, false, false, false, false, false, false, false, false, false, false, false, false, false, false] rfl rfl (by kernel_rfl) (fun _ _ _ h => h) (Or.inl ⟨by rfl, ?_⟩) ?_ ?_
                    rotate_left
                    · intro w'
                      go_simp
                      with_reducible rfl
                    rotate_left
                    · simp only [Act.put, List.setIfInBounds_toArray, List.set_cons_zero, List.set_cons_succ, i64_w, i32_w]
                      rfl
                    refine pure_ (i := 13) (N := some 137) (v := ?_) (a' := ?_) #[true, true, true, true, true, true, true, true, true, true, true, true, true, true, false, false, false, false, false, false, false, false, false, false, false, false, false, false, false, false, false, false, false, false, false, false, false, false, false] rfl rfl (by kernel_rfl) (fun _ _ _ h => h) (Or.inl ⟨by rfl, ?_⟩) ?_ ?_
                    rotate_left
                    · intro w'
                      go_simp
                      with_reducible rfl
                    rotate_left
                    · simp only [Act.put, List.setIfInBounds_toArray, List.set_cons_zero, List.set_cons_succ, i64_w, i32_w]
                      rfl
                    refine pure_ (i := 14) (N := some 138) (v := ?_) (a' := ?_) #[true, true, true, true, true, true, true, true, true, true, true, true, true, true, true, false, false, false, false, false, false, false, false, false, false, false, false, false, false, false, false, false, false, false, false, false, false, false, false] rfl rfl (by kernel_rfl) (fun _ _ _ h => h) (Or.inl ⟨by rfl, ?_⟩) ?_ ?_
                    rotate_left
                    · intro w'
                      go_simp
                      with_reducible rfl
                    rotate_left
                    · simp only [Act.put, List.setIfInBounds_toArray, List.set_cons_zero, List.set_cons_succ, i64_w, i32_w]
                      rfl
                    refine pure_ (i := 15) (N := some 139) (v := ?_) (a' := ?_) #[true, true, true, true, true, true, true, true, true, true, true, true, true, true, true, true, false, false, false, false, false, false, false, false, false, false, false, false, false, false, false, false, false, false, false, false, false, false, false] rfl rfl (by kernel_rfl) (fun _ _ _ h => h) (Or.inl ⟨by rfl, ?_⟩) ?_ ?_
                    rotate_left
                    · intro w'
                      go_simp
                      with_reducible rfl
                    rotate_left
                    · simp only [Act.put, List.setIfInBounds_toArray, List.set_cons_zero, List.set_cons_succ, i64_w, i32_w]
                      rfl
                    refine pure_ (i := 17) (N := some 141) (v := ?_) (a' := ?_) #[true, true, true, true, true, true, true, true, true, true, true, true, true, true, true, true, false, true, false, false, false, false, false, false, false, false, false, false, false, false, false, false, false, false, false, false, false, false, false] rfl rfl (by kernel_rfl) (fun _ _ _ h => h) (Or.inl ⟨by rfl, ?_⟩) ?_ ?_
                    rotate_left
                    · intro w'
                      go_simp
                      with_reducible rfl
                    rotate_left
                    · simp only [Act.put, List.setIfInBounds_toArray, List.set_cons_zero, List.set_cons_succ, i64_w, i32_w]
                      rfl
                    refine pure_ (i := 18) (N := some 142) (v := ?_) (a' := ?_) #[true, true, true, true, true, true, true, true, true, true, true, true, true, true, true, true, false, true, true, false, false, false, false, false, false, false, false, false, false, false, false, false, false, false, false, false, false, false, false] rfl rfl (by kernel_rfl) (fun _ _ _ h => h) (Or.inl ⟨by rfl, ?_⟩) ?_ ?_
                    rotate_left
                    · intro w'
                      go_simp
                      with_reducible rfl
                    rotate_left
                    · simp only [Act.put, List.setIfInBounds_toArray, List.set_cons_zero, List.set_cons_succ, i64_w, i32_w]
                      rfl
                    refine pure_ (i := 19) (N := some 143) (v := ?_) (a' := ?_) #[true, true, true, true, true, true, true, true, true, true, true, true, true, true, true, true, false, true, true, true, false, false, false, false, false, false, false, false, false, false, false, false, false, false, false, false, false, false, false] rfl rfl (by kernel_rfl) (fun _ _ _ h => h) (Or.inl ⟨by rfl, ?_⟩) ?_ ?_
                    rotate_left
                    · intro w'
                      go_simp
                      with_reducible rfl
                    rotate_left
                    · simp only [Act.put, List.setIfInBounds_toArray, List.set_cons_zero, List.set_cons_succ, i64_w, i32_w]
                      rfl
                    refine pure_ (i := 20) (N := some 144) (v := ?_) (a' := ?_) #[true, true, true, true, true, true, true, true, true, true, true, true, true, true, true, true, false, true, true, true, true, false, false, false, false, false, false, false, false, false, false, false, false, false, false, false, false, false, false] rfl rfl (by kernel_rfl) (fun _ _ _ h => h) (Or.inl ⟨by rfl, ?_⟩) ?_ ?_
                    rotate_left
                    · intro w'
                      go_simp
                      with_reducible rfl
                    rotate_left
                    · simp only [Act.put, List.setIfInBounds_toArray, List.set_cons_zero, List.set_cons_succ, i64_w, i32_w]
                      rfl
                    refine take_ (i := 16) (N := some 140) (v := ?_) (a' := ?_) #[true, true, true, true, true, true, true, true, true, true, true, true, true, true, true, true, true, true, true, true, true, false, false, false, false, false, false, false, false, false, false, false, false, false, false, false, false, false, false] rfl rfl (by kernel_rfl) (fun _ _ _ h => h) (Or.inl ⟨by rfl, ?_⟩) hHeld ?_ ?_
                    rotate_left
                    · rintro w' ⟨s0, s1, s2, s3, s4, s5⟩
                      go_simp
                      with_reducible rfl
                    rotate_left
                    · simp only [Act.put, List.setIfInBounds_toArray, List.set_cons_zero, List.set_cons_succ, i64_w, i32_w]
                      rfl
                    refine take_ (i := 21) (N := some 145) (v := ?_) (a' := ?_) #[true, true, true, true, true, true, true, true, true, true, true, true, true, true, true, true, true, true, true, true, true, true, false, false, false, false, false, false, false, false, false, false, false, false, false, false, false, false, false] rfl rfl (by kernel_rfl) (fun _ _ _ h => h) (Or.inl ⟨by rfl, ?_⟩) hHeld ?_ ?_
                    rotate_left
                    · rintro w' ⟨s0, s1, s2, s3, s4, s5⟩
                      go_simp
                      with_reducible rfl
                    rotate_left
                    · simp only [Act.put, List.setIfInBounds_toArray, List.set_cons_zero, List.set_cons_succ, i64_w, i32_w]
                      rfl
                    refine pure_ (i := 22) (N := some 146) (v := ?_) (a' := ?_) #[true, true, true, true, true, true, true, true, true, true, true, true, true, true, true, true, true, true, true, true, true, true, true, false, false, false, false, false, false, false, false, false, false, false, false, false, false, false, false] rfl rfl (by kernel_rfl) (fun _ _ _ h => h) (Or.inl ⟨by rfl, ?_⟩) ?_ ?_
                    rotate_left
                    · intro w'
                      go_simp
                      with_reducible rfl
                    rotate_left
                    · simp only [Act.put, List.setIfInBounds_toArray, List.set_cons_zero, List.set_cons_succ, i64_w, i32_w]
                      rfl
                    refine pure_ (i := 23) (N := some 147) (v := ?_) (a' := ?_) #[true, true, true, true, true, true, true, true, true, true, true, true, true, true, true, true, true, true, true, true, true, true, true, true, false, false, false, false, false, false, false, false, false, false, false, false, false, false, false] rfl rfl (by kernel_rfl) (fun _ _ _ h => h) (Or.inl ⟨by rfl, ?_⟩) ?_ ?_
                    rotate_left
                    · intro w'
                      go_simp
                      with_reducible rfl
                    rotate_left
                    · simp only [Act.put, List.setIfInBounds_toArray, List.set_cons_zero, List.set_cons_succ, i64_w, i32_w]
                      rfl
                    refine pure_ (i := 24) (N := some 148) (v := ?_) (a' := ?_) #[true, true, true, true, true, true, true, true, true, true, true, true, true, true, true, true, true, true, true, true, true, true, true, true, true, false, false, false, false, false, false, false, false, false, false, false, false, false, false] rfl rfl (by kernel_rfl) (fun _ _ _ h => h) (Or.inl ⟨by rfl, ?_⟩) ?_ ?_
                    rotate_left
                    · intro w'
                      go_simp
                      with_reducible rfl
                    rotate_left
                    · simp only [Act.put, List.setIfInBounds_toArray, List.set_cons_zero, List.set_cons_succ, i64_w, i32_w]
                      rfl
                    refine pure_ (i := 25) (N := some 149) (v := ?_) (a' := ?_) #[true, true, true, true, true, true, true, true, true, true, true, true, true, true, true, true, true, true, true, true, true, true, true, true, true, true, false, false, false, false, false, false, false, false, false, false, false, false, false] rfl rfl (by kernel_rfl) (fun _ _ _ h => h) (Or.inl ⟨by rfl, ?_⟩) ?_ ?_
                    rotate_left
                    · intro w'
                      go_simp
                      with_reducible rfl
                    rotate_left
                    · simp only [Act.put, List.setIfInBounds_toArray, List.set_cons_zero, List.set_cons_succ, i64_w, i32_w]
                      rfl
                    refine pure_ (i := 26) (N := some 150) (v := ?_) (a' := ?_) #[true, true, true, true, true, true, true, true, true, true, true, true, true, true, true, true, true, true, true, true, true, true, true, true, true, true, true, false, false, false, false, false, false, false, false, false, false, false, false] rfl rfl (by kernel_rfl) (fun _ _ _ h => h) (Or.inl ⟨by rfl, ?_⟩) ?_ ?_
                    rotate_left
                    · intro w'
                      go_simp
                      with_reducible rfl
                    rotate_left
                    · simp only [Act.put, List.setIfInBounds_toArray, List.set_cons_zero, List.set_cons_succ, i64_w, i32_w]
                      rfl
                    refine pure_ (i := 27) (N := some 151) (v := ?_) (a' := ?_) #[true, true, true, true, true, true, true, true, true, true, true, true, true, true, true, true, true, true, true, true, true, true, true, true, true, true, true, true, false, false, false, false, false, false, false, false, false, false, false] rfl rfl (by kernel_rfl) (fun _ _ _ h => h) (Or.inl ⟨by rfl, ?_⟩) ?_ ?_
                    rotate_left
                    · intro w'
                      go_simp
                      with_reducible rfl
                    rotate_left
                    · simp only [Act.put, List.setIfInBounds_toArray, List.set_cons_zero, List.set_cons_succ, i64_w, i32_w]
                      rfl
                    refine pure_ (i := 28) (N := some 152) (v := ?_) (a' := ?_) #[true, true, true, true, true, true, true, true, true, true, true, true, true, true, true, true, true, true, true, true, true, true, true, true, true, true, true, true, true, false, false, false, false, false, false, false, false, false, false] rfl rfl (by kernel_rfl) (fun _ _ _ h => h) (Or.inl ⟨by rfl, ?_⟩) ?_ ?_
                    rotate_left
                    · intro w'
                      go_simp
                      with_reducible rfl
                    rotate_left
                    · simp only [Act.put, List.setIfInBounds_toArray, List.set_cons_zero, List.set_cons_succ, i64_w, i32_w]
                      rfl
                    refine pure_ (i := 30) (N := some 154) (v := ?_) (a' := ?_) #[true, true, true, true, true, true, true, true, true, true, true, true, true, true, true, true, true, true, true, true, true, true, true, true, true, true, true, true, true, false, true, false, false, false, false, false, false, false, false] rfl rfl (by kernel_rfl) (fun _ _ _ h => h) (Or.inl ⟨by rfl, ?_⟩) ?_ ?_
                    rotate_left
                    · intro w'
                      go_simp
                      with_reducible rfl
                    rotate_left
                    · simp only [Act.put, List.setIfInBounds_toArray, List.set_cons_zero, List.set_cons_succ, i64_w, i32_w]
                      rfl
                    refine pure_ (i := 31) (N := some 155) (v := ?_) (a' := ?_) #[true, true, true, true, true, true, true, true, true, true, true, true, true, true, true, true, true, true, true, true, true, true, true, true, true, true, true, true, true, false, true, true, false, false, false, false, false, false, false] rfl rfl (by kernel_rfl) (fun _ _ _ h => h) (Or.inl ⟨by rfl, ?_⟩) ?_ ?_
                    rotate_left
                    · intro w'
                      go_simp
                      with_reducible rfl
                    rotate_left
                    · simp only [Act.put, List.setIfInBounds_toArray, List.set_cons_zero, List.set_cons_succ, i64_w, i32_w]
                      rfl
                    refine pure_ (i := 32) (N := some 156) (v := ?_) (a' := ?_) #[true, true, true, true, true, true, true, true, true, true, true, true, true, true, true, true, true, true, true, true, true, true, true, true, true, true, true, true, true, false, true, true, true, false, false, false, false, false, false] rfl rfl (by kernel_rfl) (fun _ _ _ h => h) (Or.inl ⟨by rfl, ?_⟩) ?_ ?_
                    rotate_left
                    · intro w'
                      go_simp
                      with_reducible rfl
                    rotate_left
                    · simp only [Act.put, List.setIfInBounds_toArray, List.set_cons_zero, List.set_cons_succ, i64_w, i32_w]
                      rfl
                    refine pure_ (i := 33) (N := some 157) (v := ?_) (a' := ?_) #[true, true, true, true, true, true, true, true, true, true, true, true, true, true, true, true, true, true, true, true, true, true, true, true, true, true, true, true, true, false, true, true, true, true, false, false, false, false, false] rfl rfl (by kernel_rfl) (fun _ _ _ h => h) (Or.inl ⟨by rfl, ?_⟩) ?_ ?_
                    rotate_left
                    · intro w'
                      go_simp
                      with_reducible rfl
                    rotate_left
                    · simp only [Act.put, List.setIfInBounds_toArray, List.set_cons_zero, List.set_cons_succ, i64_w, i32_w]
                      rfl
                    refine pure_ (i := 34) (N := some 158) (v := ?_) (a' := ?_) #[true, true, true, true, true, true, true, true, true, true, true, true, true, true, true, true, true, true, true, true, true, true, true, true, true, true, true, true, true, false, true, true, true, true, true, false, false, false, false] rfl rfl (by kernel_rfl) (fun _ _ _ h => h) (Or.inl ⟨by rfl, ?_⟩) ?_ ?_
                    rotate_left
                    · intro w'
                      go_simp
                      with_reducible rfl
                    rotate_left
                    · simp only [Act.put, List.setIfInBounds_toArray, List.set_cons_zero, List.set_cons_succ, i64_w, i32_w]
                      rfl
                    refine take_ (i := 29) (N := some 153) (v := ?_) (a' := ?_) #[true, true, true, true, true, true, true, true, true, true, true, true, true, true, true, true, true, true, true, true, true, true, true, true, true, true, true, true, true, true, true, true, true, true, true, false, false, false, false] rfl rfl (by kernel_rfl) (fun _ _ _ h => h) (Or.inl ⟨by rfl, ?_⟩) hHeld ?_ ?_
                    rotate_left
                    · rintro w' ⟨s0, s1, s2, s3, s4, s5⟩
                      go_simp
                      with_reducible rfl
                    rotate_left
                    · simp only [Act.put, List.setIfInBounds_toArray, List.set_cons_zero, List.set_cons_succ, i64_w, i32_w]
                      rfl
                    refine take_ (i := 35) (N := some 159) (v := ?_) (a' := ?_) #[true, true, true, true, true, true, true, true, true, true, true, true, true, true, true, true, true, true, true, true, true, true, true, true, true, true, true, true, true, true, true, true, true, true, true, true, false, false, false] rfl rfl (by kernel_rfl) (fun _ _ _ h => h) (Or.inl ⟨by rfl, ?_⟩) hHeld ?_ ?_
                    rotate_left
                    · rintro w' ⟨s0, s1, s2, s3, s4, s5⟩
                      go_simp
                      with_reducible rfl
                    rotate_left
                    · simp only [Act.put, List.setIfInBounds_toArray, List.set_cons_zero, List.set_cons_succ, i64_w, i32_w]
                      rfl
                    refine one_ (i := 36) (N := some 160) #[true, true, true, true, true, true, true, true, true, true, true, true, true, true, true, true, true, true, true, true, true, true, true, true, true, true, true, true, true, true, true, true, true, true, true, true, true, false, false] rfl rfl (by kernel_rfl) (by decide) (fun K hK => ?_)
                    refine goes_ Tryd.func15 (by kernel_rfl) rfl #[.slice Ao os.length co, .string x.f2] (by rfl) rfl rfl (by simp only [List.map_toArray, List.map_cons, List.map_nil]; rfl) ?_
                    with_reducible refine (HCL.out).mono ?_
                    rintro e V ⟨rfl, hbel⟩
                    refine ⟨_, rfl, ?_⟩
                    have HBV := Lib.hid hbel
                    clear hbel
                    refine hK.out _ _ ⟨pw_cell_below HBV.out hs0, pw_cell_below HBV.out hs1, pw_cell_below HBV.out hs2, pw_cell_below HBV.out hu0, pw_cell_below HBV.out hu1, pw_cell_below HBV.out hu2⟩ (fun hHeld => ?_)
                    clear hK K
                    refine norm_ (a' := ?_) ?_ ?_
                    rotate_left
                    · show Act.put _ (some 160) _ = _
                      simp only [Act.put, List.setIfInBounds_toArray, List.set_cons_zero, List.set_cons_succ, i64_w, i32_w]
                      rfl
                    refine pure_ (i := 37) (N := some 161) (v := ?_) (a' := ?_) #[true, true, true, true, true, true, true, true, true, true, true, true, true, true, true, true, true, true, true, true, true, true, true, true, true, true, true, true, true, true, true, true, true, true, true, true, true, true, false] rfl rfl (by kernel_rfl) (fun _ _ _ h => h) (Or.inl ⟨by rfl, ?_⟩) ?_ ?_
                    rotate_left
                    · intro w'
                      go_simp
                      with_reducible rfl
                    rotate_left
                    · simp only [Act.put, List.setIfInBounds_toArray, List.set_cons_zero, List.set_cons_succ, i64_w, i32_w]
                      rfl
                    refine pure_ (i := 38) (N := some 162) (v := ?_) (a' := ?_) #[true, true, true, true, true, true, true, true, true, true, true, true, true, true, true, true, true, true, true, true, true, true, true, true, true, true, true, true, true, true, true, true, true, true, true, true, true, true, true] rfl rfl (by kernel_rfl) (fun _ _ _ h => h) (Or.inl ⟨by rfl, ?_⟩) ?_ ?_
                    rotate_left
                    · intro w'
                      go_simp
                      with_reducible rfl
                    rotate_left
                    · simp only [Act.put, List.setIfInBounds_toArray, List.set_cons_zero, List.set_cons_succ, i64_w, i32_w]
                      rfl
                    refine done_ (by kernel_rfl) ?_
                    have HB2 := Lib.hid (below_step HB.out.drew HBV.out)
                    have HU2 := Lib.hid (Kd.R_below (Kd.R_drew HU.out) HBV.out)
                    have HS2 := Lib.hid (Kd.R_below (Kd.R_drew HS.out) HBV.out)
                    have HO2 := Lib.hid (Kd.R_below (Kd.R_drew HO.out) HBV.out)
                    clear hHeld HBV HB HU HS HO hs0 hs1 hs2 hu0 hu1 hu2 HCL
                    go_wp2_with fail
                    go_roundw
                    case rel => exact ⟨i + 1, by rw [Int.natCast_add]; rfl, by omega, HB2, HU2, HS2, HO2⟩
                    case measure => simp only [intOf]; omega
                  · have hib : decide ((i : Int) < (sp.length : Int)) = false := decide_eq_false (by omega)
                    go_wp2_with fail
                    go_ret
                    exact ⟨rfl, HB.out⟩
          · rw [show (((m + 1 : Nat) : Int) - 1) = (m : Int) by omega]
            obtain ⟨ad, rfl, f0, f1⟩ := at_P (Kd.R_reads' HO.out).2.2 (m : Int) (by omega) (by omega)
            rw [Int.toNat_natCast] at f0 f1
            have hrd := rev_drop (os := os) (m := m) (by omega)
            generalize rdP os (m : Int) = x at *
            have HRD := Lib.hid hrd
            have hmb : decide ((0 : Int) ≤ (m : Int)) = true := decide_eq_true (by omega)
            have hm0 : (0 : Int) ≤ (m : Int) := by omega
            have hm1 : (m : Int) < (os.length : Int) := by omega
            have hmw : IntKind.i64.wrap ((m : Int) - 1) = (m : Int) - 1 := IntWalk.i64_in _ (by omega)
            have hbo : ((os.drop (m + 1)).reverse.length + 1) * 32 ≤ 140737488355328 := by rw [List.length_reverse, List.length_drop]; omega
            have HBO := Lib.hid hbo
            clear hrd hbo
            have HOa := Lib.hid (Kd.R_alloc HO.out (.cells #[.string x.1, .string x.2] 42))
            have HRa := Lib.hid (Kd.R_alloc HRv.out (.cells #[.string x.1, .string x.2] 42))
            have HLa := Lib.hid (blk_new wr (.cells #[.string x.1, .string x.2] 42))
            have HBa := Lib.hid (below_alloc HB.out (.cells #[.string x.1, .string x.2] 42))
            go_wp2_with ((with_reducible refine gate_builtin (b := .append) (xs := #[.tmp 63, .tmp 68]) rfl ?_); at_builtin; refine Kd.R_append_rows kPD (w0 := w) w.heap.size rfl (.tmp 63) (.tmp 68) 37 42 (.agg #[.string ⟨#[]⟩, .string ⟨#[]⟩]) 32 rfl Tryd.underlying37 infoPD rfl (by decide) (by omega) _ (os.drop (m + 1)).reverse [x] (some ⟨wr.heap.size, 0, none⟩) 1 1 tru (fun _ => False) rfl rfl HRa.out (C_onePD HLa.out) (fun _ _ h => h) (fun _ h => h.elim) (fun _ _ => trivial) HBa.out HBa.out.size HBO.out ?_; intro v1 w3 ho3 hb3 hg3 hat3)
            have HO3 := Lib.hid (Kd.R_after HOa.out hg3 hat3)
            have HR3 : Hid (kPD.R 42 w3 w.heap.size tru v1 (os.drop m).reverse) := by rw [← HRD.out]; exact ho3
            have HB3 := Lib.hid hb3
            clear ho3 hb3 hg3 hat3
            go_wp2_with fail
            go_roundw
            case rel => exact ⟨m, rfl, by omega, HB3, HO3, HR3⟩
            case measure => simp only [intOf]; omega
end Paint
end Go.Proofs.YtcijanmckhlpiaaDoor
