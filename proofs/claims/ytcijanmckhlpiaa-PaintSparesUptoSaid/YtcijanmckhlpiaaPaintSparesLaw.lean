import Derived.Test.YtcijanmckhlpiaaApart
import Derived.Test.YtcijanmckhlpiaaAwake
import Derived.Test.YtcijanmckhlpiaaSpansSame
namespace Go.Proofs.Ytcijanmckhlpiaa
open Go.RowKit Go.Proofs.YtcijanmckhlpiaaW.PrintWords Go.Proofs.YtcijanmckhlpiaaW.PrintLast Go.Proofs.YtcijanmckhlpiaaW.PrintMore Go.Proofs.Ytcijanmckhlpiaa.PPaintClasses
set_option linter.unusedVariables false
set_option linter.unusedSimpArgs false
namespace Paint
theorem GoodP.lenS {t : List S76} {P : List Int} (h : GoodP t P) (ht : t.length ≤ 1048576) (l : List PD) : (spansS l t P).length ≤ 4194304 := by
  have h1 : P.Nodup := h.up.imp fun {a b} (hab : a < b) => by omega
  have h2 : P ⊆ 0 :: plc t := fun x hx => by
    rcases (h.mem x).1 hx with e | e
    · simp [e]
    · simp [e.2]
  have h3 := h1.length_le_of_subset h2
  rw [List.length_cons, plc_len] at h3
  have h4 := spansGo_len (classAll l t) P []
  show (spansGo (classAll l t) [] P).length ≤ _
  simp only [List.length_nil] at h4; omega
theorem R72_same {W W' : World} {e base : Nat} {v : Value} {xs : List S72} (h : k72.R e W base tru v xs) (hs : ∀ k, v.ownBlock = some k → W'.heap[k]? = W.heap[k]?) : k72.R e W' base tru v xs := by
  obtain ⟨h0, inner, ho, hr⟩ := h
  exact ⟨h0, inner, own_same ho hs, hr.imp_ (fun x cs hm => by rw [k72_openM hm]; exact k72_mkM _ _ _ _)⟩
theorem info76'' : (Try.prog.info? 76).map (fun i => (i.zero, i.size, i.bytes)) = some (some (.agg #[.string ⟨#[]⟩, .bool false, .string ⟨#[]⟩, .int .i64 0, .int .i64 0, .int .i64 0, .int .i64 0]), 7, 72) := by kernel_rfl
/-- What Spans asks of each node. -/
structure NOk (x : S76) : Prop where
  name : x.f0.size ≤ maxLen
  kids : x.f5 ≤ 9223372036854775807
  pl : (Lit.int .i64 x.f3).wf = true ∧ (Lit.int .i64 x.f4).wf = true
theorem hdr_of {W : World} {base : Nat} {A : Option Addr} {n c : Nat} {xs : List S72} (h : k72.R 72 W base tru (.slice A n c) xs) : ∃ fl, W.ownsRow base 72 3 (hv (A, n, c)) n fl := by
  obtain ⟨h1, _⟩ := Kd.R_reads' h
  obtain ⟨_, inner, ho, _⟩ := h
  subst h1
  exact ⟨inner, ho⟩
theorem ap_later {W : World} {base : Nat} {u v : Value} {xs ys : List S72} {W' : World} {base' : Nat} (hu : k72.R 72 W base tru u xs) (hv : k72.R 72 W' base' tru v ys) (hb : W.heap.size ≤ base') : Ap u v := fun k hk hk' => by
  have h1 := own_lt hu k hk
  have h2 := ((Kd.R_bound hv).1 k hk').2.1
  omega
theorem aparts4 {a b c d : Hdr} (h1 : Ap (hv a) (hv b)) (h2 : Ap (hv a) (hv c)) (h3 : Ap (hv a) (hv d)) (h4 : Ap (hv b) (hv c)) (h5 : Ap (hv b) (hv d)) (h6 : Ap (hv c) (hv d)) : Aparts [a, b, c, d] := by
  intro i j h h' hij hi hj
  match i, j with
  | 0, 0 => exact absurd rfl hij
  | 0, 1 => cases hi; cases hj; exact h1
  | 0, 2 => cases hi; cases hj; exact h2
  | 0, 3 => cases hi; cases hj; exact h3
  | 1, 0 => cases hi; cases hj; exact apart_symm h1
  | 1, 1 => exact absurd rfl hij
  | 1, 2 => cases hi; cases hj; exact h4
  | 1, 3 => cases hi; cases hj; exact h5
  | 2, 0 => cases hi; cases hj; exact apart_symm h2
  | 2, 1 => cases hi; cases hj; exact apart_symm h4
  | 2, 2 => exact absurd rfl hij
  | 2, 3 => cases hi; cases hj; exact h6
  | 3, 0 => cases hi; cases hj; exact apart_symm h3
  | 3, 1 => cases hi; cases hj; exact apart_symm h5
  | 3, 2 => cases hi; cases hj; exact apart_symm h6
  | 3, 3 => exact absurd rfl hij
  | i + 4, _ => simp at hi
  | _, j + 4 => simp at hj
theorem rws4 {W : World} {base : Nat} {a b c d : Hdr} {fa fb fc fd : List Value} (h1 : W.ownsRow base 72 3 (hv a) a.2.1 fa) (h2 : W.ownsRow base 72 3 (hv b) b.2.1 fb) (h3 : W.ownsRow base 72 3 (hv c) c.2.1 fc) (h4 : W.ownsRow base 72 3 (hv d) d.2.1 fd) : Rws base W [a, b, c, d] [fa, fb, fc, fd] := by
  refine ⟨rfl, fun j h xs hj hx => ?_⟩
  match j with
  | 0 => cases hj; cases hx; exact h1
  | 1 => cases hj; cases hx; exact h2
  | 2 => cases hj; cases hx; exact h3
  | 3 => cases hj; cases hx; exact h4
  | j + 4 => simp at hj
set_option maxRecDepth 100000 in
set_option maxHeartbeats 4000000 in
theorem paintSpares_any (A : Option Addr) (c : Nat) (l : List PD) (B : Option Addr) (d : Nat) (t : List S76) (w : World) (hr : k99.C w A l.length l) (hlc : l.length ≤ c) (hz : l.length ≤ 1048576) (hrt : k76.C w B t.length t) (hd : t.length ≤ d) (hzt : t.length ≤ 1048576)
    (hsl : ∀ x ∈ l, x.1.size ≤ maxLen) (hok : ∀ x ∈ t, NOk x) :
    Calls Try.prog 9 #[.slice A l.length c, .slice B t.length d] w fun e w' => e = .returned (.bool true) ∧ Below w.heap.size w w' := by
  have HR := Lib.hid hr
  have HRT := Lib.hid hrt
  have HOK := Lib.hid hok
  obtain ⟨rb, hb⟩ := Beyond_ev hzt
  obtain ⟨kb, hkb⟩ := hb.rounds
  have HBY : Hid (∀ W, k76.C W B t.length t → Calls Try.prog 19 #[.slice B t.length d] W fun e w' => e = .returned (.bool rb) ∧ Below W.heap.size W w') := fun W h => trellisref15_Beyond.calls kb B d t rb W h hd hkb
  have HLA : Hid (∀ W (m : List PD), (∀ x ∈ m, x ∈ l) → m.length ≤ l.length → k99.C W A m.length m → Calls Try.prog 22 #[.slice A m.length c] W fun e w' => ∃ A' c', e = .returned (LG (.slice A' m.length c')) ∧ m.length ≤ c' ∧ k99.C w' A' m.length m ∧ Below W.heap.size W w') := fun W m _ hm h => lang_any A c m W h (by omega)
  have HSP : Hid (∀ W (m : List PD) A' c' B' d' (ts : List S76), (∀ x ∈ m, x ∈ l) → m.length ≤ l.length → k99.C W A' m.length m → k76.C W B' ts.length ts → ts.length ≤ d' → ts.length = t.length → (∀ x ∈ ts, NOk x) → Calls Try.prog 27 #[LG (.slice A' m.length c'), .slice B' ts.length d'] W fun e w' => ∃ P A1 c1, GoodP ts P ∧ e = .returned (.slice A1 (spansS m ts P).length c1) ∧ k72.R 72 w' W.heap.size tru (.slice A1 (spansS m ts P).length c1) (spansS m ts P) ∧ Below W.heap.size W w') := fun W m A' c' B' d' ts hml hmm h1 h2 h3 h4 h5 => (spans_any A' c' m B' d' ts W h1 (by omega) h2 h3 (by omega) (fun x hx => hsl x (hml x hx)) (fun x hx => (h5 x hx).kids) (fun x hx => (h5 x hx).name) (fun x hx => (h5 x hx).pl)).mono (by
    rintro e w' ⟨P, v, hg, rfl, h4, h5⟩
    obtain ⟨As, cs, rfl, _, _⟩ := Kd.R_reads h4
    exact ⟨P, As, cs, hg, rfl, h4, h5⟩)
  have HSS : Hid (∀ W A1 c1 A2 c2 (s : List S72), s.length ≤ 4194304 → k72.C W A1 s.length s → s.length ≤ c1 → k72.C W A2 s.length s → s.length ≤ c2 → Calls Try.prog 28 #[.slice A1 s.length c1, .slice A2 s.length c2] W fun e w' => e = .returned (.bool true) ∧ Below W.heap.size W w') := fun W A1 c1 A2 c2 s h0 h1 h2 h3 h4 => by
    obtain ⟨k, hk⟩ := (sameSpans_ev h0).rounds
    refine (trellislaw21_sameSpans.calls k A1 c1 s A2 c2 s true W h1 h2 h3 h4 hk).mono ?_
    rintro e w' ⟨rfl, h⟩
    exact ⟨rfl, h.below⟩
  clear hr hrt hkb hsl hok hb
  go_enter Try.func9, Try.ntmps9
  have tok : True := trivial
  go_wp2_with fail
  refine (awake_any w).mono ?_
  rintro e W1 ⟨rfl, hbel⟩
  have HB1 := Lib.hid hbel
  clear hbel
  go_wp2_with fail
  refine (HBY.out W1 (Kd.C_below HRT.out HB1.out)).mono ?_
  rintro e W2 ⟨rfl, hbel⟩
  have HB2 := Lib.hid (below_step HB1.out hbel)
  clear hbel HB1 HBY
  cases rb with
  | true =>
    go_wp2_with fail
    go_ret
    exact ⟨rfl, HB2.out⟩
  | false =>
    unfold LG at *
    go_wp2_with fail
    refine (HLA.out W2 l (fun x h => h) (Nat.le_refl _) (Kd.C_below HR.out HB2.out)).mono ?_
    rintro e W3 ⟨La, da, rfl, hda, hC, hbel⟩
    have HCa := Lib.hid hC
    have HB3 := Lib.hid (below_step HB2.out hbel)
    clear hC hbel
    go_wp2_with fail
    refine (HSP.out W3 l La da B d t (fun x h => h) (Nat.le_refl _) HCa.out (Kd.C_below HRT.out HB3.out) hd rfl HOK.out).mono ?_
    rintro e W4 ⟨P, Aa, ca, hga, rfl, hR, hbel⟩
    have HG := Lib.hid hga
    have hln := hga.lenS hzt l
    have HUQ : Hid (∀ Q, GoodP t Q → spansS l t Q = spansS l t P) := fun Q h => by rw [h.uniq hga]
    generalize spansS l t P = s at *
    have Ra4 := Lib.hid hR
    have HB4 := Lib.hid (below_step HB3.out hbel)
    clear hR hbel hga
    go_wp2_with fail
    refine (HLA.out W4 l (fun x h => h) (Nat.le_refl _) (Kd.C_below HR.out HB4.out)).mono ?_
    rintro e W5 ⟨Lb, db, rfl, hdb, hC, hbel⟩
    have HCb := Lib.hid hC
    have HB5 := Lib.hid (below_step HB4.out hbel)
    have Ra5 := Lib.hid (Kd.R_below Ra4.out hbel)
    clear hC hbel
    go_wp2_with fail
    refine (HSP.out W5 l Lb db B d t (fun x h => h) (Nat.le_refl _) HCb.out (Kd.C_below HRT.out HB5.out) hd rfl HOK.out).mono ?_
    rintro e W6 ⟨Pb, Ab, cb, hgb, rfl, hR, hbel⟩
    rw [HUQ.out Pb hgb] at hR
    rw [HUQ.out Pb hgb]
    have Rb6 := Lib.hid hR
    have HB6 := Lib.hid (below_step HB5.out hbel)
    have Ra6 := Lib.hid (Kd.R_below Ra5.out hbel)
    have APab := Lib.hid (ap_later Ra5.out hR (Nat.le_refl _))
    clear hR hbel hgb Ra4 Ra5
    obtain ⟨i99, hi99, _, _, _⟩ := info_parts info99
    have hcut := cut_to (P := Try.prog) 44 99 .i64 Try.underlying44 hi99 A l.length c ((l.length / 2 : Nat) : Int) (by omega) (by omega) hlc W6
    rw [Int.toNat_natCast] at hcut
    have hquo : ((l.length / 2 : Nat) : Int) = (l.length : Int) / 2 := by omega
    rw [hquo] at hcut
    clear hi99 hquo
    go_wp2_with fail
    have hmt : (l.take (l.length / 2)).length = l.length / 2 := by rw [List.length_take]; omega
    have HCt := Lib.hid (Kd.C_take (Kd.C_below HR.out HB6.out) (show l.length / 2 ≤ l.length by omega))
    have HLo := HLA.out W6 (l.take (l.length / 2)) (fun x h => List.mem_of_mem_take h) (by omega) HCt.out
    rw [hmt] at HLo
    refine HLo.mono ?_
    rintro e W7 ⟨Lo, do_, rfl, hdo, hC, hbel⟩
    have HB7 := Lib.hid (below_step HB6.out hbel)
    have Ra7 := Lib.hid (Kd.R_below Ra6.out hbel)
    have Rb7 := Lib.hid (Kd.R_below Rb6.out hbel)
    have HSo := HSP.out W7 (l.take (l.length / 2)) Lo do_ B d t (fun x h => List.mem_of_mem_take h) (by omega) (by rw [hmt]; exact hC) (Kd.C_below HRT.out HB7.out) hd rfl HOK.out
    rw [hmt] at HSo
    clear hC hbel HLo hcut
    go_wp2_with fail
    refine HSo.mono ?_
    rintro e W8 ⟨Po, Ao, co, hgo, rfl, hR, hbel⟩
    have hlo := hgo.lenS hzt (l.take (l.length / 2))
    generalize spansS (l.take (l.length / 2)) t Po = so at *
    have Ro8 := Lib.hid hR
    have HB8 := Lib.hid (below_step HB7.out hbel)
    have Ra8 := Lib.hid (Kd.R_below Ra7.out hbel)
    have Rb8 := Lib.hid (Kd.R_below Rb7.out hbel)
    have APao := Lib.hid (ap_later Ra7.out hR (Nat.le_refl _))
    have APbo := Lib.hid (ap_later Rb7.out hR (Nat.le_refl _))
    clear hR hbel hgo HSo HCt hmt Ra6 Ra7 Rb6 Rb7
    go_wp2_with fail
    refine (HLA.out W8 l (fun x h => h) (Nat.le_refl _) (Kd.C_below HR.out HB8.out)).mono ?_
    rintro e W9 ⟨Lc, dc, rfl, hdc, hC, hbel⟩
    have HCc := Lib.hid hC
    have HB9 := Lib.hid (below_step HB8.out hbel)
    have Ra9 := Lib.hid (Kd.R_below Ra8.out hbel)
    have Rb9 := Lib.hid (Kd.R_below Rb8.out hbel)
    have Ro9 := Lib.hid (Kd.R_below Ro8.out hbel)
    clear hC hbel
    go_wp2_with fail
    refine (HSP.out W9 l Lc dc B d t (fun x h => h) (Nat.le_refl _) HCc.out (Kd.C_below HRT.out HB9.out) hd rfl HOK.out).mono ?_
    rintro e W10 ⟨Pc, Ac, cc, hgc, rfl, hR, hbel⟩
    rw [HUQ.out Pc hgc] at hR
    rw [HUQ.out Pc hgc]
    have Rc10 := Lib.hid hR
    have HB10 := Lib.hid (below_step HB9.out hbel)
    have Ra10 := Lib.hid (Kd.R_below Ra9.out hbel)
    have Rb10 := Lib.hid (Kd.R_below Rb9.out hbel)
    have Ro10 := Lib.hid (Kd.R_below Ro9.out hbel)
    have APac := Lib.hid (ap_later Ra9.out hR (Nat.le_refl _))
    have APbc := Lib.hid (ap_later Rb9.out hR (Nat.le_refl _))
    have APoc := Lib.hid (ap_later Ro9.out hR (Nat.le_refl _))
    clear hR hbel hgc Ra8 Ra9 Rb8 Rb9 Ro8 Ro9
    have Ca := Kd.R_reads' Ra10.out
    have Cb := Kd.R_reads' Rb10.out
    have Cc := Kd.R_reads' Rc10.out
    have HCa := Lib.hid Ca.2
    have HCb := Lib.hid Cb.2
    have HCc := Lib.hid Cc.2
    clear Ca Cb Cc
    go_wp2_with fail
    refine (HSS.out W10 Aa ca Ab cb s hln HCa.out.2 HCa.out.1 HCb.out.2 HCb.out.1).mono ?_
    rintro e W11 ⟨rfl, hbel⟩
    have HB11 := Lib.hid (below_step HB10.out hbel)
    have Ra11 := Lib.hid (Kd.R_below Ra10.out hbel)
    have Rb11 := Lib.hid (Kd.R_below Rb10.out hbel)
    have Ro11 := Lib.hid (Kd.R_below Ro10.out hbel)
    have Rc11 := Lib.hid (Kd.R_below Rc10.out hbel)
    have HCa11 := Lib.hid (Kd.C_below HCa.out.2 hbel)
    have HCc11 := Lib.hid (Kd.C_below HCc.out.2 hbel)
    clear hbel Ra10 Rb10 Ro10 Rc10
    go_wp2_with fail
    refine (HSS.out W11 Aa ca Ac cc s hln HCa11.out HCa.out.1 HCc11.out HCc.out.1).mono ?_
    rintro e W12 ⟨rfl, hbel⟩
    have HB12 := Lib.hid (below_step HB11.out hbel)
    have Ra12 := Lib.hid (Kd.R_below Ra11.out hbel)
    have Rb12 := Lib.hid (Kd.R_below Rb11.out hbel)
    have Ro12 := Lib.hid (Kd.R_below Ro11.out hbel)
    have Rc12 := Lib.hid (Kd.R_below Rc11.out hbel)
    clear hbel Ra11 Rb11 Ro11 Rc11 HCa HCb HCc HCa11 HCc11
    have HEw : Hid (k72.R 72 (W12.alloc (.cells #[] 72)) W12.heap.size tru (.slice (some ⟨W12.heap.size, 0, none⟩) 0 0) []) := R_empty k72 W12 W12.heap.size 72 (Nat.le_refl _)
    have HBw := Lib.hid (below_alloc (Below.refl _ W12) (.cells #[] 72))
    have HCb12 := Lib.hid (Kd.C_below (Kd.R_reads' Rb12.out).2.2 HBw.out)
    have hbow : (([] : List S72).length + s.length) * 32 ≤ 140737488355328 := by simp only [List.length_nil]; omega
    go_wp2_with ((with_reducible refine gate_builtin (b := .append) (xs := #[.tmp 46, .tmp 47]) rfl ?_); at_builtin; refine Kd.R_append_rows k72 (w0 := W12) W12.heap.size rfl (.tmp 46) (.tmp 47) 66 72 (.agg #[.int .i64 0, .int .i64 0, .string ⟨#[]⟩]) 32 rfl Try.underlying66 info72' rfl (by decide) (by omega) _ ([] : List S72) s Ab s.length cb tru (fun _ => False) rfl rfl HEw.out HCb12.out (fun _ _ h => h) (fun _ h => h.elim) (fun _ _ => trivial) HBw.out HBw.out.size hbow ?_; intro vw W13 how hbw hgw hatw; rw [List.nil_append] at how; obtain ⟨Aw, cw, rfl, hcw, hCw⟩ := Kd.R_reads how; have RW13 := Lib.hid how; have HB13 := Lib.hid (below_step HB12.out hbw); have Ra13 := Lib.hid (Kd.R_below Ra12.out hbw); have Rb13 := Lib.hid (Kd.R_below Rb12.out hbw); have Ro13 := Lib.hid (Kd.R_below Ro12.out hbw); have Rc13 := Lib.hid (Kd.R_below Rc12.out hbw); clear how hbw hgw hatw hCw)
    clear HEw HBw HCb12
    have hw3 : w.heap.size ≤ W3.heap.size := HB3.out.size
    have hw5 : w.heap.size ≤ W5.heap.size := HB5.out.size
    have hw7 : w.heap.size ≤ W7.heap.size := HB7.out.size
    have hw9 : w.heap.size ≤ W9.heap.size := HB9.out.size
    have hw12 : w.heap.size ≤ W12.heap.size := HB12.out.size
    obtain ⟨fa, hfa⟩ := hdr_of (Kd.R_alloc (Kd.R_lower Ra13.out hw3) (.cells #[.slice Aa s.length ca, .slice Ab s.length cb, .slice Ao so.length co, .slice Ac s.length cc] 66))
    obtain ⟨fb, hfb⟩ := hdr_of (Kd.R_alloc (Kd.R_lower Rb13.out hw5) (.cells #[.slice Aa s.length ca, .slice Ab s.length cb, .slice Ao so.length co, .slice Ac s.length cc] 66))
    obtain ⟨fo, hfo⟩ := hdr_of (Kd.R_alloc (Kd.R_lower Ro13.out hw7) (.cells #[.slice Aa s.length ca, .slice Ab s.length cb, .slice Ao so.length co, .slice Ac s.length cc] 66))
    obtain ⟨fc, hfc⟩ := hdr_of (Kd.R_alloc (Kd.R_lower Rc13.out hw9) (.cells #[.slice Aa s.length ca, .slice Ab s.length cb, .slice Ao so.length co, .slice Ac s.length cc] 66))
    have HB14 := Lib.hid (below_alloc HB13.out (.cells #[.slice Aa s.length ca, .slice Ab s.length cb, .slice Ao so.length co, .slice Ac s.length cc] 66))
    have RW14 := Lib.hid (Kd.R_alloc RW13.out (.cells #[.slice Aa s.length ca, .slice Ab s.length cb, .slice Ao so.length co, .slice Ac s.length cc] 66))
    have hsz14 : (W13.alloc (.cells #[.slice Aa s.length ca, .slice Ab s.length cb, .slice Ao so.length co, .slice Ac s.length cc] 66)).heap.size = W13.heap.size + 1 := World.size_alloc _ _
    have hAS : ApS w.heap.size W13.heap.size [(Aa, s.length, ca), (Ab, s.length, cb), (Ao, so.length, co), (Ac, s.length, cc)] (W13.alloc (.cells #[.slice Aa s.length ca, .slice Ab s.length cb, .slice Ao so.length co, .slice Ac s.length cc] 66)) (W13.alloc (.cells #[.slice Aa s.length ca, .slice Ab s.length cb, .slice Ao so.length co, .slice Ac s.length cc] 66)) [fa, fb, fo, fc] := ⟨rws4 hfa hfb hfo hfc, blk_new W13 _, rfl, rfl, rfl, Nat.le_refl _, fun _ _ _ => rfl⟩
    have HAT := Lib.hid (apart_any w.heap.size W13.heap.size 4 _ _ _ (by show 4 ≤ 1000; omega) hAS (aparts4 APab.out APao.out APac.out APbo.out APbc.out APoc.out) (by intro h hh; simp only [List.mem_cons, List.not_mem_nil, or_false] at hh; rcases hh with rfl | rfl | rfl | rfl <;> first | exact hln | exact hlo) HB14.out.size)
    have la := own_lt Ra12.out
    have lb := own_lt Rb12.out
    have lo := own_lt Ro12.out
    have lc := own_lt Rc12.out
    have HNB : Hid (∀ k, (∀ m, (Value.slice Aa s.length ca).ownBlock = some m → m ≠ k) → (∀ m, (Value.slice Ab s.length cb).ownBlock = some m → m ≠ k) → (∀ m, (Value.slice Ao so.length co).ownBlock = some m → m ≠ k) → (∀ m, (Value.slice Ac s.length cc).ownBlock = some m → m ≠ k) → ∀ (j : Nat) (h : Hdr), [((Aa, s.length, ca) : Hdr), (Ab, s.length, cb), (Ao, so.length, co), (Ac, s.length, cc)][j]? = some h → (hv h).ownBlock ≠ some k) := fun k h1 h2 h3 h4 j h hj e => by
      match j with
      | 0 => cases hj; exact h1 k e rfl
      | 1 => cases hj; exact h2 k e rfl
      | 2 => cases hj; exact h3 k e rfl
      | 3 => cases hj; exact h4 k e rfl
      | j + 4 => simp at hj
    have LA := Lib.hid la
    have LB := Lib.hid lb
    have LO := Lib.hid lo
    have LC := Lib.hid lc
    have QA := Lib.hid (fun k hk => (own_block hfa k hk).1)
    have QB := Lib.hid (fun k hk => (own_block hfb k hk).1)
    have QO := Lib.hid (fun k hk => (own_block hfo k hk).1)
    have QC := Lib.hid (fun k hk => (own_block hfc k hk).1)
    clear la lb lo lc hAS hfa hfb hfo hfc APab APao APac APbo APbc APoc Ra13 Rb13 Ro13 Rc13 RW13 Ra12 Rb12 Ro12 Rc12
    go_wp2_with fail
    generalize W13.alloc (.cells #[.slice Aa s.length ca, .slice Ab s.length cb, .slice Ao so.length co, .slice Ac s.length cc] 66) = W14 at *
    refine HAT.out.mono ?_
    rintro e W15 ⟨rfl, ho, htp, hou, hsz, hrest⟩
    have HB15 : Hid (Below w.heap.size w W15) := ⟨ho.trans HB14.out.os, htp.trans HB14.out.tape, hou.trans HB14.out.output, Nat.le_trans HB14.out.size hsz, fun k hk => (hrest k (Nat.lt_of_lt_of_le hk HB14.out.size) (HNB.out k (fun m hm e => by have := QA.out m hm; omega) (fun m hm e => by have := QB.out m hm; omega) (fun m hm e => by have := QO.out m hm; omega) (fun m hm e => by have := QC.out m hm; omega))).trans (HB14.out.block k hk)⟩
    have RW15 : Hid (k72.R 72 W15 W12.heap.size tru (.slice Aw s.length cw) s) := R72_same RW14.out (fun k hk => by
      have h1 := own_lt RW14.out k hk
      have h2 := ((Kd.R_bound RW14.out).1 k hk).2.1
      exact hrest k h1 (HNB.out k (fun m hm e => by have := LA.out m hm; omega) (fun m hm e => by have := LB.out m hm; omega) (fun m hm e => by have := LO.out m hm; omega) (fun m hm e => by have := LC.out m hm; omega)))
    clear ho htp hou hsz hrest HAT HNB LA LB LO LC QA QB QO QC HB14 RW14 hsz14
    go_wp2_with fail
    refine (HLA.out W15 l (fun x h => h) (Nat.le_refl _) (Kd.C_below HR.out HB15.out)).mono ?_
    rintro e W16 ⟨Ld, dd, rfl, hdd, hC, hbel⟩
    have HCd := Lib.hid hC
    have HB16 := Lib.hid (below_step HB15.out hbel)
    have RW16 := Lib.hid (Kd.R_below RW15.out hbel)
    clear hC hbel
    go_wp2_with fail
    refine (HSP.out W16 l Ld dd B d t (fun x h => h) (Nat.le_refl _) HCd.out (Kd.C_below HRT.out HB16.out) hd rfl HOK.out).mono ?_
    rintro e W17 ⟨Pd, Ad, cd, hgd, rfl, hR, hbel⟩
    rw [HUQ.out Pd hgd] at hR
    rw [HUQ.out Pd hgd]
    have HCd17 := Lib.hid (Kd.R_reads' hR).2
    have HB17 := Lib.hid (below_step HB16.out hbel)
    have HCw17 := Lib.hid (Kd.R_reads' (Kd.R_below RW16.out hbel)).2
    clear hR hbel hgd
    go_wp2_with fail
    refine (HSS.out W17 Ad cd Aw cw s hln HCd17.out.2 HCd17.out.1 HCw17.out.2 HCw17.out.1).mono ?_
    rintro e W18 ⟨rfl, hbel⟩
    have HB18 := Lib.hid (below_step HB17.out hbel)
    clear hbel HCd17 HCw17 RW15 RW16
    have HEm : Hid (k76.R 76 (W18.alloc (.cells #[] 76)) W18.heap.size tru (.slice (some ⟨W18.heap.size, 0, none⟩) 0 0) []) := R_empty k76 W18 W18.heap.size 76 (Nat.le_refl _)
    have HBm := Lib.hid (below_alloc (Below.refl _ W18) (.cells #[] 76))
    have HCt18 := Lib.hid (Kd.C_below (Kd.C_below HRT.out HB18.out) HBm.out)
    have hbom : (([] : List S76).length + t.length) * 72 ≤ 140737488355328 := by simp only [List.length_nil]; omega
    go_wp2_with ((with_reducible refine gate_builtin (b := .append) (xs := #[.tmp 63, .tmp 64]) rfl ?_); at_builtin; refine Kd.R_append_rows k76 (w0 := W18) W18.heap.size rfl (.tmp 63) (.tmp 64) 45 76 (.agg #[.string ⟨#[]⟩, .bool false, .string ⟨#[]⟩, .int .i64 0, .int .i64 0, .int .i64 0, .int .i64 0]) 72 rfl Try.underlying45 info76'' rfl (by decide) (by omega) _ ([] : List S76) t B t.length d tru (fun _ => False) rfl rfl HEm.out HCt18.out (fun _ _ h => h) (fun _ h => h.elim) (fun _ _ => trivial) HBm.out HBm.out.size hbom ?_; intro vm W19 hom hbm hgm hatm; rw [List.nil_append] at hom; obtain ⟨Am, cm, rfl, hcm, hCm⟩ := Kd.R_reads hom; have RM19 := Lib.hid hom; have HB19 := Lib.hid (below_step HB18.out hbm); clear hom hbm hgm hatm hCm)
    clear HEm HBm HCt18
    refine (HLA.out W19 l (fun x h => h) (Nat.le_refl _) (Kd.C_below HR.out HB19.out)).mono ?_
    rintro e W20 ⟨Le, de, rfl, hde, hC, hbel⟩
    have HCe := Lib.hid hC
    have HB20 := Lib.hid (below_step HB19.out hbel)
    have RM20 := Lib.hid (Kd.R_below RM19.out hbel)
    clear hC hbel
    go_wp2_with fail
    refine (HSP.out W20 l Le de Am cm t (fun x h => h) (Nat.le_refl _) HCe.out (Kd.R_reads' RM20.out).2.2 (Kd.R_reads' RM20.out).2.1 rfl HOK.out).mono ?_
    rintro e W21 ⟨Pe, Ae, ce, hge, rfl, hR, hbel⟩
    have RM21 := Lib.hid (Kd.R_below RM20.out hbel)
    have HB21 := Lib.hid (below_step HB20.out hbel)
    clear hR hbel hge RM19 RM20
    go_wp2_with fail
    go_loopw [11] (fun v w' => ∃ (i : Nat) (ts : List S76), v = .int .i64 (i : Int) ∧ i ≤ t.length ∧ ts.length = t.length ∧ Hid (∀ x ∈ ts, NOk x) ∧ Hid (k76.R 76 w' W18.heap.size tru (.slice Am t.length cm) ts) ∧ Hid (Below w.heap.size w w')) (fun v _ => t.length - (intOf v).toNat)
    case atStart => exact ⟨0, t, rfl, Nat.zero_le _, rfl, HOK, RM21, HB21⟩
    case round =>
      clear RM21
      obtain ⟨i, ts, rfl, hi, hts, HOT, RM, HBr⟩ := hrel
      have hts1 : ts.length ≤ t.length := by omega
      have hts2 : t.length ≤ ts.length := by omega
      have HTS : Hid (ts.length = t.length) := hts
      clear hts
      by_cases hil : i < t.length
      · have hib : decide ((i : Int) < (t.length : Int)) = true := decide_eq_true (by omega)
        have hi0 : (0 : Int) ≤ (i : Int) := Int.natCast_nonneg _
        have hi1 : (i : Int) < (t.length : Int) := by omega
        have hiw : IntKind.i64.wrap ((i : Int) + 1) = (i : Int) + 1 := IntWalk.i64_in _ (by omega)
        have hw1 : IntKind.i64.wrap ((t.length : Int) - 1) = (t.length : Int) - 1 := IntWalk.i64_in _ (by omega)
        have hw2 : IntKind.i64.wrap ((t.length : Int) - 1 - (i : Int)) = (t.length : Int) - 1 - (i : Int) := IntWalk.i64_in _ (by omega)
        have hql : t.length - 1 - i < t.length := by omega
        have hq0 : (0 : Int) ≤ (t.length : Int) - 1 - (i : Int) := by omega
        have hq1 : (t.length : Int) - 1 - (i : Int) < (t.length : Int) := by omega
        have hqn : ((t.length : Int) - 1 - (i : Int)).toNat = t.length - 1 - i := by omega
        obtain ⟨gm, cm2, ev, hbg, hgl, cells, hbk⟩ := Kd.R_form RM.out (by omega)
        injection ev with ev1 ev3 ev2
        clear ev3
        subst ev1
        subst ev2
        obtain ⟨adt, rfl, gt, _⟩ := at_T76 (Kd.C_below HRT.out HBr.out) ((t.length - 1 - i : Nat) : Int) (by omega) (by omega)
        rw [Int.toNat_natCast, rdT_get t _ hql] at gt
        obtain ⟨ad2, e2, gx, _⟩ := at_T76 (Kd.R_reads' RM.out).2.2 (i : Int) hi0 (by omega)
        injection e2 with e2
        subst e2
        rw [Int.toNat_natCast, add_plain] at gx
        have hxi : ts[i]? = some (ts[i]'(by omega)) := List.getElem?_eq_getElem (by omega)
        have hnx := HOT.out _ (List.getElem_mem (show i < ts.length by omega))
        have hnq := HOK.out _ (List.getElem_mem hql)
        generalize ts[i]'(by omega) = x at hxi hnx
        generalize t[t.length - 1 - i] = y at *
        have hfr : wr.frozen? ⟨gm, i * 7, none⟩ = false := blk_frozen hbk _
        have RM2 : Hid (k76.R 76 (wr.setCell ⟨gm, i * 7, none⟩ (.string y.f0)) W18.heap.size tru (.slice (some ⟨gm, 0, none⟩) t.length cm) (ts.set i { x with f0 := y.f0 })) := Kd.R_fset RM.out i x { x with f0 := y.f0 } hxi 0 (by decide) (.string y.f0) (fun W ok cs h => by rw [k76_openM h]; exact k76_mkM _ _ _ _)
        have HB2r := Lib.hid (below_set HBr.out (Nat.le_trans HB18.out.size hbg) (j := i * 7) (v := .string y.f0))
        have HOT2 : Hid (∀ z ∈ ts.set i { x with f0 := y.f0 }, NOk z) := fun z hz => by
          rcases List.mem_or_eq_of_mem_set hz with h1 | h1
          · exact HOT.out z h1
          · subst h1; exact ⟨hnq.name, hnx.kids, hnx.pl⟩
        clear hxi hnx hnq hbk RM HBr HOT
        go_wp2_with fail
        go_roundw
        case rel => exact ⟨i + 1, ts.set i { x with f0 := y.f0 }, by rw [Int.natCast_add]; rfl, hil, by rw [List.length_set]; exact HTS.out, HOT2, RM2, HB2r⟩
        case measure => simp only [intOf]; omega
      · have hib : decide ((i : Int) < (t.length : Int)) = false := decide_eq_false (by omega)
        obtain ⟨W22, hW22⟩ : ∃ W22, W22 = wr := ⟨_, rfl⟩
        subst hW22
        clear HB21
        have HB22 := HBr
        go_wp2_with fail
        refine (HLA.out W22 l (fun x h => h) (Nat.le_refl _) (Kd.C_below HR.out HB22.out)).mono ?_
        rintro e W23 ⟨Lf, df, rfl, hdf, hC, hbel⟩
        have HCf := Lib.hid hC
        have HB23 := Lib.hid (below_step HB22.out hbel)
        have RM23 := Lib.hid (Kd.R_below RM.out hbel)
        clear hC hbel
        go_wp2_with fail
        have hS1 := HSP.out W23 l Lf df Am cm ts (fun x h => h) (Nat.le_refl _) HCf.out (Kd.R_reads' RM23.out).2.2 (by have h8 := (Kd.R_reads' RM23.out).2.1; have h9 := HTS.out; omega) HTS.out HOT.out
        rw [HTS.out] at hS1
        refine hS1.mono ?_
        rintro e W24 ⟨P1, A1, c1, hg1, rfl, hR, hbel⟩
        have hln1 := hg1.lenS (by rw [HTS.out]; exact hzt) l
        have HUQ1 : Hid (∀ Q, GoodP ts Q → spansS l ts Q = spansS l ts P1) := fun Q h => by rw [h.uniq hg1]
        generalize spansS l ts P1 = s1 at *
        have R1_24 := Lib.hid hR
        have RM24 := Lib.hid (Kd.R_below RM23.out hbel)
        have HB24 := Lib.hid (below_step HB23.out hbel)
        clear hR hbel hg1 hS1 RM23
        go_wp2_with fail
        refine (HLA.out W24 l (fun x h => h) (Nat.le_refl _) (Kd.C_below HR.out HB24.out)).mono ?_
        rintro e W25 ⟨Lg, dg, rfl, hdg, hC, hbel⟩
        have HCg := Lib.hid hC
        have HB25 := Lib.hid (below_step HB24.out hbel)
        have RM25 := Lib.hid (Kd.R_below RM24.out hbel)
        have R1_25 := Lib.hid (Kd.R_below R1_24.out hbel)
        clear hC hbel
        have HEm : Hid (k76.R 76 (W25.alloc (.cells #[] 76)) W25.heap.size tru (.slice (some ⟨W25.heap.size, 0, none⟩) 0 0) []) := R_empty k76 W25 W25.heap.size 76 (Nat.le_refl _)
        have HBm := Lib.hid (below_alloc (Below.refl _ W25) (.cells #[] 76))
        have hct := Kd.C_below (Kd.R_reads' RM25.out).2.2 HBm.out
        rw [HTS.out] at hct
        have HCt25 := Lib.hid hct
        clear hct
        have hbo2 : (([] : List S76).length + t.length) * 72 ≤ 140737488355328 := by simp only [List.length_nil]; omega
        go_wp2_with ((with_reducible refine gate_builtin (b := .append) (xs := #[.tmp 95, .tmp 96]) rfl ?_); at_builtin; refine Kd.R_append_rows k76 (w0 := W25) W25.heap.size rfl (.tmp 95) (.tmp 96) 45 76 (.agg #[.string ⟨#[]⟩, .bool false, .string ⟨#[]⟩, .int .i64 0, .int .i64 0, .int .i64 0, .int .i64 0]) 72 rfl Try.underlying45 info76'' rfl (by decide) (by omega) _ ([] : List S76) ts Am t.length cm tru (fun _ => False) rfl rfl HEm.out HCt25.out (fun _ _ h => h) (fun _ h => h.elim) (fun _ _ => trivial) HBm.out HBm.out.size hbo2 ?_; intro vn W26 hom hbm hgm hatm; rw [List.nil_append] at hom; obtain ⟨An, cn, rfl, hcn, hCn⟩ := Kd.R_reads hom; have RN26 := Lib.hid hom; have HB26 := Lib.hid (below_step HB25.out hbm); have R1_26 := Lib.hid (Kd.R_below R1_25.out hbm); have HCg26 := Lib.hid (Kd.C_below HCg.out hbm); clear hom hbm hgm hatm hCn)
        clear HEm HBm HCt25
        have hS2 := HSP.out W26 l Lg dg An cn ts (fun x h => h) (Nat.le_refl _) HCg26.out (Kd.R_reads' RN26.out).2.2 (Kd.R_reads' RN26.out).2.1 HTS.out HOT.out
        rw [HTS.out] at hS2
        try rw [HTS.out]
        refine hS2.mono ?_
        rintro e W27 ⟨P2, A2, c2, hg2, rfl, hR, hbel⟩
        rw [HUQ1.out P2 hg2] at hR
        rw [HUQ1.out P2 hg2]
        have HC27 := Lib.hid (Kd.R_reads' hR).2
        have HB27 := Lib.hid (below_step HB26.out hbel)
        have HC1_27 := Lib.hid (Kd.R_reads' (Kd.R_below R1_26.out hbel)).2
        clear hR hbel hg2 hS2
        go_wp2_with fail
        refine (HSS.out W27 A1 c1 A2 c2 s1 hln1 HC1_27.out.2 HC1_27.out.1 HC27.out.2 HC27.out.1).mono ?_
        rintro e W28 ⟨rfl, hbel⟩
        have HB28 := Lib.hid (below_step HB27.out hbel)
        clear hbel
        go_wp2_with fail
        go_ret
        exact ⟨rfl, HB28.out⟩
end Paint
end Go.Proofs.Ytcijanmckhlpiaa
