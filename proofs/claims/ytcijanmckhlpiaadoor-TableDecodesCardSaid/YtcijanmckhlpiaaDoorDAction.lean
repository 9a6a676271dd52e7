import Derived.Test.YtcijanmckhlpiaaDoorDWithin
import Derived.Test.YtcijanmckhlpiaaDoorPTableDecodesx2
namespace Go.Proofs.YtcijanmckhlpiaaDoor
open Go.RowKit Go.Proofs.YtcijanmckhlpiaaDoorW.PrintWords Go.Proofs.YtcijanmckhlpiaaDoorW.PrintLast Go.Proofs.YtcijanmckhlpiaaDoorW.PrintMore Go.Proofs.YtcijanmckhlpiaaDoor.PTableDecodes
set_option linter.unusedVariables false
set_option linter.unusedSimpArgs false
namespace Dec
def actOf (n : Int) : S93 := if n = 0 then ⟨0, 0⟩ else if n = 1 then ⟨3, 0⟩ else if n % 2 = 0 then ⟨1, (n - 2) / 2⟩ else ⟨2, (n - 3) / 2⟩
def fitS (a : S93) (st : Int) : Bool := if a.f0 = 0 ∨ a.f0 = 3 then a.f1 == 0 else if a.f0 = 1 then decide (0 ≤ a.f1 ∧ a.f1 < st) else if a.f0 = 2 then decide (0 ≤ a.f1 ∧ a.f1 < 256) else false
def actS (s : ByteArray) (st : Int) (p : Nat) : Option (S93 × Nat) := (within s 0 4608 p).bind fun r => if fitS (actOf r.1) st = true then some (actOf r.1, r.2) else none
theorem fitS_big {n st : Int} (hn : 4099 < n) (hst : st ≤ 2048) : fitS (actOf n) st = false := by
  unfold actOf
  rw [if_neg (by omega), if_neg (by omega)]
  split
  · unfold fitS
    simp
    omega
  · unfold fitS
    simp
    omega
theorem actS_less (s : ByteArray) (st : Int) (p : Nat) (hst : st ≤ 2048) : actS s st p = (within s 0 4099 p).bind fun r => if fitS (actOf r.1) st = true then some (actOf r.1, r.2) else none := by
  unfold actS within
  rcases num s p with _ | ⟨n, q⟩
  · rfl
  · simp only [Option.bind_some]
    by_cases h : n ≤ 4099
    · by_cases h0 : 0 ≤ n
      · rw [if_pos ⟨h0, by omega⟩, if_pos ⟨h0, h⟩]
      · rw [if_neg (by omega), if_neg (by omega)]
    · by_cases h1 : 0 ≤ n ∧ n ≤ 4608
      · rw [if_pos h1, if_neg (by omega)]
        simp only [Option.bind_some, Option.bind_none]
        rw [fitS_big (by omega) hst]
        rfl
      · rw [if_neg h1, if_neg (by omega)]
theorem fits_f (k : Nat) (a : S93) (st : Int) : table_fits.f (k + 1) a.f0 a.f1 st = some (fitS a st) := by
  obtain ⟨x, y⟩ := a
  simp only [table_fits.f, table_fits.j0]
  unfold fitS
  simp only
  by_cases h0 : x = 0
  · subst h0; simp
  · by_cases h3 : x = 3
    · subst h3; simp
    · by_cases h1 : x = 1
      · subst h1
        by_cases hy : 0 ≤ y <;> simp [hy]
      · by_cases h2 : x = 2
        · subst h2
          by_cases hy : 0 ≤ y <;> simp [hy]
        · simp [h0, h1, h2, h3]
theorem Rel.far {w0 w W : World} {g q b j : Nat} {s : ByteArray} (h : Rel w0 w W g s q) (hl : w0.heap.size ≤ w.heap.size) (hg : g < w.heap.size) (hb : w.heap.size ≤ b) (u : Value) : Rel w0 w (W.setCell ⟨b, j, none⟩ u) g s q :=
  ⟨⟨blk_far h.is.1 (by show g ≠ b; omega) u, h.is.2⟩, below_set h.below (Nat.le_trans hl hb), keep_far h.keep hb u⟩
theorem Rel.trans {w0 w W W' : World} {g q q' : Nat} {s : ByteArray} (h : Rel w0 w W g s q) (k : Rel w0 W W' g s q') : Rel w0 w W' g s q' :=
  ⟨k.is, k.below, KeepBut.trans h.keep k.keep (.inl rfl)⟩
theorem Rel.call {w0 w W W' : World} {g q : Nat} {s : ByteArray} (h : Rel w0 w W g s q) (hb : Below W.heap.size W W') : Rel w0 w W' g s q :=
  ⟨h.is.below hb, below_step h.below hb, KeepBut.trans h.keep (KeepBut.of_below hb g none) (.inl rfl)⟩
theorem IsBad.before {w w1 w2 : World} {p : Nat} {ev : Value} (h : IsBad w1 w2 p ev) (hs : w.heap.size ≤ w1.heap.size) : IsBad w w2 p ev := by
  obtain ⟨b, h1, h2, h3⟩ := h
  exact ⟨b, by omega, h2, h3⟩
theorem IsBad.far {w W : World} {p k j : Nat} {ev : Value} (h : IsBad w W p ev) (hk : k < w.heap.size) (u : Value) : IsBad w (W.setCell ⟨k, j, none⟩ u) p ev := by
  obtain ⟨b, h1, h2, h3⟩ := h
  exact ⟨b, h1, h2, blk_far h3 (by show b ≠ k; omega) u⟩
theorem blk_new_set2 (w : World) (p1 p2 : Addr) (u1 u2 : Value) (o : Obj) : (((w.setCell p1 u1).setCell p2 u2).alloc o).heap[w.heap.size]? = some o := by
  have h := blk_new ((w.setCell p1 u1).setCell p2 u2) o
  simpa [World.setCell] using h
def ActE (o : Option (S93 × Nat)) (w w' : World) (p : Nat) (e : Ending) (q : Nat) : Prop := match o with
  | some r => e = .returned (.tuple #[.agg #[.int .i64 r.1.f0, .int .i64 r.1.f1], .nilIface]) ∧ q = r.2
  | none => ∃ ev, e = .returned (.tuple #[.agg #[.int .i64 0, .int .i64 0], ev]) ∧ IsBad w w' p ev
set_option maxRecDepth 100000 in
set_option maxHeartbeats 4000000 in
theorem action_any (s : ByteArray) (g p : Nat) (st : Int) (w0 w : World) (hI : IsR w0 w g s p) (hB : Below w0.heap.size w0 w) (hs : s.size ≤ 140737488351232) (hp : p ≤ s.size) (hst : st ≤ 2048) :
    Calls Tryd.prog 49 #[.pointer (some ⟨g, 0, none⟩), .int .i64 st] w fun e w' => ∃ q, q ≤ s.size ∧ Rel w0 w w' g s q ∧ ActE (actS s st p) w w' p e q := by
  have HR : Hid (Rel w0 w w g s p) := ⟨hI, hB, KeepBut.refl _ _ _⟩
  have hgl : g < w.heap.size := blk_lt hI.1
  have hwl : w0.heap.size ≤ w.heap.size := hB.size
  have HA := Lib.hid (actS_less s st p hst)
  have hz1 := (blk_cell hI.1 1)
  simp at hz1
  clear hI hB hst
  go_enter Tryd.func49, Tryd.ntmps49
  go_wp2_with fail
  have HR1 := Lib.hid (HR.out.alloc (.cells #[.int .i64 0, .int .i64 0] 93))
  have HX := Lib.hid (blk_new w (.cells #[.int .i64 0, .int .i64 0] 93))
  refine (within_any s g p 0 4099 w0 _ HR1.out.is HR1.out.below hs hp).mono ?_
  rintro e w1 ⟨q, hq, hR, hW⟩
  have HR2 := Lib.hid (HR1.out.trans hR)
  have HX1 := Lib.hid (hR.keep.blk HX.out (by omega) (by simp))
  have hsz1 := hR.size
  rw [World.size_alloc] at hsz1
  clear hR HR HR1 HX hz1
  have hx0 := blk_cell HX1.out 0
  have hx1 := blk_cell HX1.out 1
  have hx2 := blk_frozen HX1.out 0
  have hx3 := blk_frozen HX1.out 1
  simp at hx0 hx1
  rcases hw : within s 0 4099 p with _ | ⟨n, qn⟩
  · rw [hw] at hW
    obtain ⟨ev, rfl, hbad⟩ := hW
    have hA := HA.out
    rw [hw] at hA
    have HA2 := Lib.hid hA
    have HBad := Lib.hid hbad
    clear hA hbad hw HA
    obtain ⟨b, hb1, rfl, hb2⟩ := HBad.out
    clear hb2
    go_wp2_with fail
    refine bodyPost_ret (results_ct rfl _ _ w.heap.size 93 #[.int .i64 0, .int .i64 0] (0, 0) _ rfl (blk_put (cs := #[.int .i64 0, .int .i64 0]) (blk_put (cs := #[.int .i64 0, .int .i64 0]) HX1.out 0 _ rfl) 1 _ rfl) Tryd.underlying93 rfl (by kernel_rfl)) rfl ?_
    refine ⟨q, hq, (HR2.out.far hwl hgl (Nat.le_refl _) _).far hwl hgl (Nat.le_refl _) _, ?_⟩
    rw [HA2.out]
    refine ⟨_, rfl, ?_⟩
    exact ((HBad.out.far (by rw [World.size_alloc]; omega) _).far (by rw [World.size_alloc]; omega) _).before (by rw [World.size_alloc]; omega)
  · rw [hw] at hW
    have hwb := within_bound hw
    obtain ⟨rfl, rfl⟩ := hW
    have hA := HA.out
    rw [hw] at hA
    have HA2 := Lib.hid hA
    simp only at hwb
    obtain ⟨hn0, hn1, hq1, hq2⟩ := hwb
    clear hA hw HA
    have hcs : n = 0 ∨ n = 1 ∨ (2 ≤ n ∧ n % 2 = 0) ∨ (3 ≤ n ∧ n % 2 = 1) := by omega
    have HF := fun W a => Lib.hid (table_fits.calls 1 a.f0 a.f1 st (fitS a st) W (fits_f 0 a st))
    rcases hcs with c0 | c1 | c2 | c2
    · subst c0
      have ha : actOf (0 : Int) = ⟨0, 0⟩ := by unfold actOf; rfl
      have hA := HA2.out
      simp only [Option.bind_some] at hA
      rw [ha] at hA
      have HA3 := Lib.hid hA
      clear hA ha
      by_cases hf : fitS ⟨0, 0⟩ st = true
      · have hA := HA3.out
        rw [if_pos hf] at hA
        have HA4 := Lib.hid hA
        have HF2 := fun W => Lib.hid (HF W ⟨0, 0⟩).out
        rw [hf] at HF2
        clear hA hf HF
        go_wp2_with fail
        refine (HF2 _).out.mono ?_
        rintro e w2 ⟨rfl, hb⟩
        have HR3 := Lib.hid ((HR2.out.alloc (.cells #[.int .i64 0, .int .i64 0] 93)).call hb)
        have HX2 := Lib.hid (blk_below (blk_alloc HX1.out (.cells #[.int .i64 0, .int .i64 0] 93)) hb)
        have HY2 := Lib.hid (blk_below (blk_new w1 (.cells #[.int .i64 0, .int .i64 0] 93)) hb)
        have hs2 := hb.size
        rw [World.size_alloc] at hs2
        have hlt : w.heap.size < w2.heap.size := by omega
        clear hb hx0 hx1 hx2 hx3
        have hx0 := blk_cell HX2.out 0
        have hx1 := blk_cell HX2.out 1
        have hx2 := blk_frozen HX2.out 0
        have hx3 := blk_frozen HX2.out 1
        have hy0 := blk_cell HY2.out 0
        have hy1 := blk_cell HY2.out 1
        simp at hx0 hx1 hy0 hy1
        go_wp2_with fail
        refine bodyPost_ret (results_ct rfl _ _ w.heap.size 93 #[.int .i64 0, .int .i64 0] (0, 0) _ rfl (blk_put (cs := #[.int .i64 0, .int .i64 0]) (blk_put (cs := #[.int .i64 0, .int .i64 0]) HX2.out 0 _ rfl) 1 _ rfl) Tryd.underlying93 rfl (by kernel_rfl)) rfl ?_
        exact ⟨q, hq, (HR3.out.far hwl hgl (Nat.le_refl _) _).far hwl hgl (Nat.le_refl _) _, by rw [HA4.out]; exact ⟨rfl, rfl⟩⟩
      · have hA := HA3.out
        rw [if_neg hf] at hA
        replace hf := Bool.eq_false_iff.mpr hf
        have HA4 := Lib.hid hA
        have HF2 := fun W => Lib.hid (HF W ⟨0, 0⟩).out
        rw [hf] at HF2
        clear hA hf HF
        go_wp2_with fail
        refine (HF2 _).out.mono ?_
        rintro e w2 ⟨rfl, hb⟩
        have HR3 := Lib.hid ((HR2.out.alloc (.cells #[.int .i64 0, .int .i64 0] 93)).call hb)
        have HX2 := Lib.hid (blk_below (blk_alloc HX1.out (.cells #[.int .i64 0, .int .i64 0] 93)) hb)
        have HY2 := Lib.hid (blk_below (blk_new w1 (.cells #[.int .i64 0, .int .i64 0] 93)) hb)
        have hs2 := hb.size
        rw [World.size_alloc] at hs2
        have hlt : w.heap.size < w2.heap.size := by omega
        clear hb hx0 hx1 hx2 hx3
        have hx0 := blk_cell HX2.out 0
        have hx1 := blk_cell HX2.out 1
        have hx2 := blk_frozen HX2.out 0
        have hx3 := blk_frozen HX2.out 1
        have hy0 := blk_cell HY2.out 0
        have hy1 := blk_cell HY2.out 1
        simp at hx0 hx1 hy0 hy1
        go_wp2_with fail
        refine bodyPost_ret (results_ct rfl _ _ w.heap.size 93 #[.int .i64 0, .int .i64 0] (0, 0) _ rfl (blk_alloc (blk_put (cs' := #[.int .i64 0, .int .i64 0]) (blk_put (cs' := #[.int .i64 0, .int .i64 0]) HX2.out 0 _ rfl) 1 _ rfl) _) Tryd.underlying93 rfl (by kernel_rfl)) rfl ?_
        exact ⟨q, hq, ((HR3.out.far hwl hgl (Nat.le_refl _) _).far hwl hgl (Nat.le_refl _) _).alloc _, by rw [HA4.out]; exact ⟨_, rfl, w2.heap.size, by omega, rfl, blk_new_set2 _ _ _ _ _ _⟩⟩
    · subst c1
      have ha : actOf (1 : Int) = ⟨3, 0⟩ := by unfold actOf; rfl
      have hA := HA2.out
      simp only [Option.bind_some] at hA
      rw [ha] at hA
      have HA3 := Lib.hid hA
      clear hA ha
      by_cases hf : fitS ⟨3, 0⟩ st = true
      · have hA := HA3.out
        rw [if_pos hf] at hA
        have HA4 := Lib.hid hA
        have HF2 := fun W => Lib.hid (HF W ⟨3, 0⟩).out
        rw [hf] at HF2
        clear hA hf HF
        go_wp2_with fail
        refine (HF2 _).out.mono ?_
        rintro e w2 ⟨rfl, hb⟩
        have HR3 := Lib.hid ((HR2.out.alloc (.cells #[.int .i64 3, .int .i64 0] 93)).call hb)
        have HX2 := Lib.hid (blk_below (blk_alloc HX1.out (.cells #[.int .i64 3, .int .i64 0] 93)) hb)
        have HY2 := Lib.hid (blk_below (blk_new w1 (.cells #[.int .i64 3, .int .i64 0] 93)) hb)
        have hs2 := hb.size
        rw [World.size_alloc] at hs2
        have hlt : w.heap.size < w2.heap.size := by omega
        clear hb hx0 hx1 hx2 hx3
        have hx0 := blk_cell HX2.out 0
        have hx1 := blk_cell HX2.out 1
        have hx2 := blk_frozen HX2.out 0
        have hx3 := blk_frozen HX2.out 1
        have hy0 := blk_cell HY2.out 0
        have hy1 := blk_cell HY2.out 1
        simp at hx0 hx1 hy0 hy1
        go_wp2_with fail
        refine bodyPost_ret (results_ct rfl _ _ w.heap.size 93 #[.int .i64 3, .int .i64 0] (0, 0) _ rfl (blk_put (cs := #[.int .i64 3, .int .i64 0]) (blk_put (cs := #[.int .i64 0, .int .i64 0]) HX2.out 0 _ rfl) 1 _ rfl) Tryd.underlying93 rfl (by kernel_rfl)) rfl ?_
        exact ⟨q, hq, (HR3.out.far hwl hgl (Nat.le_refl _) _).far hwl hgl (Nat.le_refl _) _, by rw [HA4.out]; exact ⟨rfl, rfl⟩⟩
      · have hA := HA3.out
        rw [if_neg hf] at hA
        replace hf := Bool.eq_false_iff.mpr hf
        have HA4 := Lib.hid hA
        have HF2 := fun W => Lib.hid (HF W ⟨3, 0⟩).out
        rw [hf] at HF2
        clear hA hf HF
        go_wp2_with fail
        refine (HF2 _).out.mono ?_
        rintro e w2 ⟨rfl, hb⟩
        have HR3 := Lib.hid ((HR2.out.alloc (.cells #[.int .i64 3, .int .i64 0] 93)).call hb)
        have HX2 := Lib.hid (blk_below (blk_alloc HX1.out (.cells #[.int .i64 3, .int .i64 0] 93)) hb)
        have HY2 := Lib.hid (blk_below (blk_new w1 (.cells #[.int .i64 3, .int .i64 0] 93)) hb)
        have hs2 := hb.size
        rw [World.size_alloc] at hs2
        have hlt : w.heap.size < w2.heap.size := by omega
        clear hb hx0 hx1 hx2 hx3
        have hx0 := blk_cell HX2.out 0
        have hx1 := blk_cell HX2.out 1
        have hx2 := blk_frozen HX2.out 0
        have hx3 := blk_frozen HX2.out 1
        have hy0 := blk_cell HY2.out 0
        have hy1 := blk_cell HY2.out 1
        simp at hx0 hx1 hy0 hy1
        go_wp2_with fail
        refine bodyPost_ret (results_ct rfl _ _ w.heap.size 93 #[.int .i64 0, .int .i64 0] (0, 0) _ rfl (blk_alloc (blk_put (cs' := #[.int .i64 0, .int .i64 0]) (blk_put (cs' := #[.int .i64 0, .int .i64 0]) HX2.out 0 _ rfl) 1 _ rfl) _) Tryd.underlying93 rfl (by kernel_rfl)) rfl ?_
        exact ⟨q, hq, ((HR3.out.far hwl hgl (Nat.le_refl _) _).far hwl hgl (Nat.le_refl _) _).alloc _, by rw [HA4.out]; exact ⟨_, rfl, w2.heap.size, by omega, rfl, blk_new_set2 _ _ _ _ _ _⟩⟩
    · obtain ⟨c2, c3⟩ := c2
      have c4 : (n == 0) = false := by simp; omega
      have c5 : (n == 1) = false := by simp; omega
      have ha : actOf n = ⟨1, (n - 2) / 2⟩ := by unfold actOf; rw [if_neg (by omega), if_neg (by omega), if_pos c3]
      have hA := HA2.out
      simp only [Option.bind_some] at hA
      rw [ha] at hA
      have HA3 := Lib.hid hA
      clear hA ha
      by_cases hf : fitS ⟨1, (n - 2) / 2⟩ st = true
      · have hA := HA3.out
        rw [if_pos hf] at hA
        have HA4 := Lib.hid hA
        have HF2 := fun W => Lib.hid (HF W ⟨1, (n - 2) / 2⟩).out
        rw [hf] at HF2
        clear hA hf HF
        go_wp2_with fail
        refine (HF2 _).out.mono ?_
        rintro e w2 ⟨rfl, hb⟩
        have HR3 := Lib.hid ((HR2.out.alloc (.cells #[.int .i64 1, .int .i64 ((n - 2) / 2)] 93)).call hb)
        have HX2 := Lib.hid (blk_below (blk_alloc HX1.out (.cells #[.int .i64 1, .int .i64 ((n - 2) / 2)] 93)) hb)
        have HY2 := Lib.hid (blk_below (blk_new w1 (.cells #[.int .i64 1, .int .i64 ((n - 2) / 2)] 93)) hb)
        have hs2 := hb.size
        rw [World.size_alloc] at hs2
        have hlt : w.heap.size < w2.heap.size := by omega
        clear hb hx0 hx1 hx2 hx3
        have hx0 := blk_cell HX2.out 0
        have hx1 := blk_cell HX2.out 1
        have hx2 := blk_frozen HX2.out 0
        have hx3 := blk_frozen HX2.out 1
        have hy0 := blk_cell HY2.out 0
        have hy1 := blk_cell HY2.out 1
        simp at hx0 hx1 hy0 hy1
        go_wp2_with fail
        refine bodyPost_ret (results_ct rfl _ _ w.heap.size 93 #[.int .i64 1, .int .i64 ((n - 2) / 2)] (0, 0) _ rfl (blk_put (cs := #[.int .i64 1, .int .i64 0]) (blk_put (cs := #[.int .i64 0, .int .i64 0]) HX2.out 0 _ rfl) 1 _ rfl) Tryd.underlying93 rfl (by kernel_rfl)) rfl ?_
        exact ⟨q, hq, (HR3.out.far hwl hgl (Nat.le_refl _) _).far hwl hgl (Nat.le_refl _) _, by rw [HA4.out]; exact ⟨rfl, rfl⟩⟩
      · have hA := HA3.out
        rw [if_neg hf] at hA
        replace hf := Bool.eq_false_iff.mpr hf
        have HA4 := Lib.hid hA
        have HF2 := fun W => Lib.hid (HF W ⟨1, (n - 2) / 2⟩).out
        rw [hf] at HF2
        clear hA hf HF
        go_wp2_with fail
        refine (HF2 _).out.mono ?_
        rintro e w2 ⟨rfl, hb⟩
        have HR3 := Lib.hid ((HR2.out.alloc (.cells #[.int .i64 1, .int .i64 ((n - 2) / 2)] 93)).call hb)
        have HX2 := Lib.hid (blk_below (blk_alloc HX1.out (.cells #[.int .i64 1, .int .i64 ((n - 2) / 2)] 93)) hb)
        have HY2 := Lib.hid (blk_below (blk_new w1 (.cells #[.int .i64 1, .int .i64 ((n - 2) / 2)] 93)) hb)
        have hs2 := hb.size
        rw [World.size_alloc] at hs2
        have hlt : w.heap.size < w2.heap.size := by omega
        clear hb hx0 hx1 hx2 hx3
        have hx0 := blk_cell HX2.out 0
        have hx1 := blk_cell HX2.out 1
        have hx2 := blk_frozen HX2.out 0
        have hx3 := blk_frozen HX2.out 1
        have hy0 := blk_cell HY2.out 0
        have hy1 := blk_cell HY2.out 1
        simp at hx0 hx1 hy0 hy1
        go_wp2_with fail
        refine bodyPost_ret (results_ct rfl _ _ w.heap.size 93 #[.int .i64 0, .int .i64 0] (0, 0) _ rfl (blk_alloc (blk_put (cs' := #[.int .i64 0, .int .i64 0]) (blk_put (cs' := #[.int .i64 0, .int .i64 0]) HX2.out 0 _ rfl) 1 _ rfl) _) Tryd.underlying93 rfl (by kernel_rfl)) rfl ?_
        exact ⟨q, hq, ((HR3.out.far hwl hgl (Nat.le_refl _) _).far hwl hgl (Nat.le_refl _) _).alloc _, by rw [HA4.out]; exact ⟨_, rfl, w2.heap.size, by omega, rfl, blk_new_set2 _ _ _ _ _ _⟩⟩
    · obtain ⟨c2, c3⟩ := c2
      have c4 : (n == 0) = false := by simp; omega
      have c5 : (n == 1) = false := by simp; omega
      have ha : actOf n = ⟨2, (n - 3) / 2⟩ := by unfold actOf; rw [if_neg (by omega), if_neg (by omega), if_neg (by omega)]
      have hA := HA2.out
      simp only [Option.bind_some] at hA
      rw [ha] at hA
      have HA3 := Lib.hid hA
      clear hA ha
      by_cases hf : fitS ⟨2, (n - 3) / 2⟩ st = true
      · have hA := HA3.out
        rw [if_pos hf] at hA
        have HA4 := Lib.hid hA
        have HF2 := fun W => Lib.hid (HF W ⟨2, (n - 3) / 2⟩).out
        rw [hf] at HF2
        clear hA hf HF
        go_wp2_with fail
        refine (HF2 _).out.mono ?_
        rintro e w2 ⟨rfl, hb⟩
        have HR3 := Lib.hid ((HR2.out.alloc (.cells #[.int .i64 2, .int .i64 ((n - 3) / 2)] 93)).call hb)
        have HX2 := Lib.hid (blk_below (blk_alloc HX1.out (.cells #[.int .i64 2, .int .i64 ((n - 3) / 2)] 93)) hb)
        have HY2 := Lib.hid (blk_below (blk_new w1 (.cells #[.int .i64 2, .int .i64 ((n - 3) / 2)] 93)) hb)
        have hs2 := hb.size
        rw [World.size_alloc] at hs2
        have hlt : w.heap.size < w2.heap.size := by omega
        clear hb hx0 hx1 hx2 hx3
        have hx0 := blk_cell HX2.out 0
        have hx1 := blk_cell HX2.out 1
        have hx2 := blk_frozen HX2.out 0
        have hx3 := blk_frozen HX2.out 1
        have hy0 := blk_cell HY2.out 0
        have hy1 := blk_cell HY2.out 1
        simp at hx0 hx1 hy0 hy1
        go_wp2_with fail
        refine bodyPost_ret (results_ct rfl _ _ w.heap.size 93 #[.int .i64 2, .int .i64 ((n - 3) / 2)] (0, 0) _ rfl (blk_put (cs := #[.int .i64 2, .int .i64 0]) (blk_put (cs := #[.int .i64 0, .int .i64 0]) HX2.out 0 _ rfl) 1 _ rfl) Tryd.underlying93 rfl (by kernel_rfl)) rfl ?_
        exact ⟨q, hq, (HR3.out.far hwl hgl (Nat.le_refl _) _).far hwl hgl (Nat.le_refl _) _, by rw [HA4.out]; exact ⟨rfl, rfl⟩⟩
      · have hA := HA3.out
        rw [if_neg hf] at hA
        replace hf := Bool.eq_false_iff.mpr hf
        have HA4 := Lib.hid hA
        have HF2 := fun W => Lib.hid (HF W ⟨2, (n - 3) / 2⟩).out
        rw [hf] at HF2
        clear hA hf HF
        go_wp2_with fail
        refine (HF2 _).out.mono ?_
        rintro e w2 ⟨rfl, hb⟩
        have HR3 := Lib.hid ((HR2.out.alloc (.cells #[.int .i64 2, .int .i64 ((n - 3) / 2)] 93)).call hb)
        have HX2 := Lib.hid (blk_below (blk_alloc HX1.out (.cells #[.int .i64 2, .int .i64 ((n - 3) / 2)] 93)) hb)
        have HY2 := Lib.hid (blk_below (blk_new w1 (.cells #[.int .i64 2, .int .i64 ((n - 3) / 2)] 93)) hb)
        have hs2 := hb.size
        rw [World.size_alloc] at hs2
        have hlt : w.heap.size < w2.heap.size := by omega
        clear hb hx0 hx1 hx2 hx3
        have hx0 := blk_cell HX2.out 0
        have hx1 := blk_cell HX2.out 1
        have hx2 := blk_frozen HX2.out 0
        have hx3 := blk_frozen HX2.out 1
        have hy0 := blk_cell HY2.out 0
        have hy1 := blk_cell HY2.out 1
        simp at hx0 hx1 hy0 hy1
        go_wp2_with fail
        refine bodyPost_ret (results_ct rfl _ _ w.heap.size 93 #[.int .i64 0, .int .i64 0] (0, 0) _ rfl (blk_alloc (blk_put (cs' := #[.int .i64 0, .int .i64 0]) (blk_put (cs' := #[.int .i64 0, .int .i64 0]) HX2.out 0 _ rfl) 1 _ rfl) _) Tryd.underlying93 rfl (by kernel_rfl)) rfl ?_
        exact ⟨q, hq, ((HR3.out.far hwl hgl (Nat.le_refl _) _).far hwl hgl (Nat.le_refl _) _).alloc _, by rw [HA4.out]; exact ⟨_, rfl, w2.heap.size, by omega, rfl, blk_new_set2 _ _ _ _ _ _⟩⟩
end Dec
end Go.Proofs.YtcijanmckhlpiaaDoor
