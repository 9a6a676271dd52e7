import Derived.Test.YtcijanmckhlpiaaDoorRNum
import Derived.Test.YtcijanmckhlpiaaDoorDTable
namespace Go.Proofs.YtcijanmckhlpiaaDoor
open Go.RowKit Go.Proofs.YtcijanmckhlpiaaDoorW.PrintWords Go.Proofs.YtcijanmckhlpiaaDoorW.PrintLast Go.Proofs.YtcijanmckhlpiaaDoorW.PrintMore Go.Proofs.YtcijanmckhlpiaaDoor.PTableDecodes
set_option linter.unusedVariables false
set_option linter.unusedSimpArgs false
namespace Dec
def RE (o : Except Nat (List (List S93) × List (List Int))) (w w' : World) (e : Ending) : Prop := match o with
  | .error p => e = .returned (.tuple #[.agg #[nilS, nilS], .int .i64 (p : Int)])
  | .ok r => ∃ vA vG, e = .returned (.tuple #[.agg #[vA, vG], .int .i64 (-1)]) ∧ kA.R 90 w' w.heap.size tru vA r.1 ∧ kG.R 95 w' w.heap.size tru vG r.2
/-- Something bad was met. -/
def Err (s : ByteArray) (bad : Int) : Prop := ∃ e : Nat, bad = (e : Int) ∧ decS s = .error e
theorem sign0 (s : ByteArray) (hs : s.size ≤ 140737488351232) : ∃ (q : Nat) (bad : Int), trellisref13_Reader_sign.f s 0 (-1) 84 = some (s, (q : Int), bad) ∧ q ≤ s.size ∧ ((bad = -1 ∧ q = 1 ∧ 0 < s.size ∧ bt s 0 = 84) ∨ Err s bad) := by
  unfold trellisref13_Reader_sign.f
  rw [if_neg (by decide)]
  by_cases h : (0 : Int) ≥ (s.size : Int)
  · rw [if_pos h]
    exact ⟨0, 0, rfl, Nat.zero_le _, .inr ⟨0, rfl, by unfold decS; rw [if_pos (by omega)]⟩⟩
  · rw [if_neg h, if_pos (by decide), if_pos (by omega)]
    by_cases hb : bt s 0 = 84
    · rw [if_pos hb]
      exact ⟨1, -1, by simp [wrap64], by omega, .inl ⟨rfl, rfl, by omega, hb⟩⟩
    · rw [if_neg hb]
      exact ⟨0, 0, rfl, Nat.zero_le _, .inr ⟨0, rfl, by unfold decS; rw [if_pos (fun h => hb h.2)]⟩⟩
theorem sign1 (s : ByteArray) (hs : s.size ≤ 140737488351232) (q : Nat) (bad : Int) (hq : q ≤ s.size) (h : (bad = -1 ∧ q = 1 ∧ 0 < s.size ∧ bt s 0 = 84) ∨ Err s bad) : ∃ (q' : Nat) (bad' : Int), trellisref13_Reader_sign.f s (q : Int) bad 1 = some (s, (q' : Int), bad') ∧ q' ≤ s.size ∧ ((bad' = -1 ∧ HD s 2 0 0 0 0 q' ∧ decS s = tabS s 2) ∨ Err s bad') := by
  unfold trellisref13_Reader_sign.f
  rcases h with ⟨rfl, rfl, hs0, hb0⟩ | ⟨e, rfl, he⟩
  · rw [if_neg (by decide)]
    have h0 : ¬ ¬ (0 < s.size ∧ bt s 0 = 84) := fun h => h ⟨hs0, hb0⟩
    by_cases h : ((1 : Nat) : Int) ≥ (s.size : Int)
    · rw [if_pos h]
      exact ⟨1, 1, rfl, hq, .inr ⟨1, rfl, by unfold decS; rw [if_neg h0, if_pos (by omega)]⟩⟩
    · rw [if_neg h, if_pos (by decide), if_pos (by omega)]
      by_cases hb : bt s ((1 : Nat) : Int) = 1
      · rw [if_pos hb]
        exact ⟨2, -1, by simp [wrap64], by omega, .inl ⟨rfl, ⟨rfl, rfl, rfl, rfl⟩, by unfold decS; rw [if_neg h0, if_neg (fun h2 => h2 ⟨by omega, hb⟩)]⟩⟩
      · rw [if_neg hb]
        exact ⟨1, 1, rfl, hq, .inr ⟨1, rfl, by unfold decS; rw [if_neg h0, if_pos (fun h2 => hb h2.2)]⟩⟩
  · rw [if_pos (by omega)]
    exact ⟨q, e, rfl, hq, .inr ⟨e, rfl, he⟩⟩
/-- One number more, whatever was before. -/
theorem numStep (s : ByteArray) (hs : s.size ≤ 140737488351232) (lo hi : Int) (hl : 0 ≤ lo ∧ lo < 9223372036854775808) (hh : 0 ≤ hi ∧ hi < 9223372036854775808) (q : Nat) (bad : Int) (hq : q ≤ s.size) (P : Nat → Prop) (P' : Nat → Nat → Prop)
    (hgood : P q → ∀ (n q' : Nat), within s lo hi q = some ((n : Int), q') → P' n q') (hbad : P q → within s lo hi q = none → decS s = .error q) (h : (bad = -1 ∧ P q) ∨ Err s bad) :
    ∃ (n q' : Nat) (bad' : Int), trellisref13_Reader_number.f 20 s (q : Int) bad lo hi = some ((n : Int), s, (q' : Int), bad') ∧ q' ≤ s.size ∧ (n : Int) ≤ hi ∧ ((bad' = -1 ∧ P' n q') ∨ Err s bad') := by
  rcases h with ⟨rfl, hP⟩ | ⟨e, rfl, he⟩
  · obtain ⟨q', hq', e⟩ := num_f s lo hi q hs hl hh hq
    rcases hw : within s lo hi q with _ | ⟨n, qn⟩
    · have hN : numR s lo hi (num s q) q (-1) q' = (0, s, (q' : Int), (q : Int)) := by
        unfold numR
        unfold within at hw
        rw [hw]
      rw [hN] at e
      exact ⟨0, q', q, e, hq', hh.1, .inr ⟨q, rfl, hbad hP hw⟩⟩
    · have hb := within_bound hw
      have hN : numR s lo hi (num s q) q (-1) q' = (n, s, (qn : Int), -1) := by
        unfold numR
        unfold within at hw
        rw [hw]
      rw [hN] at e
      obtain ⟨m, rfl⟩ := Int.eq_ofNat_of_zero_le (show 0 ≤ n by have := hb.1; simp only at this; omega)
      exact ⟨m, qn, -1, e, hb.2.2.2, hb.2.1, .inl ⟨rfl, hgood hP m qn hw⟩⟩
  · exact ⟨0, q, e, num_bad 20 s lo hi q e (by omega), hq, hh.1, .inr ⟨e, rfl, he⟩⟩
abbrev rrC (s : ByteArray) (q : Nat) (bad : Int) : Array Value := #[.string s, .int .i64 (q : Int), .int .i64 bad]
theorem plain87 : plainT 87 := by unfold plainT; decide
theorem is87 {w0 W : World} {g bT q : Nat} {bad : Int} {s : ByteArray} {tc : Array Value} {fix : List (Nat × Array Value × Nat)} {vl vA vG : Value} {rows : List (List S93)} {gos : List (List Int)} (h : St w0 W g (rrC s q bad) 87 bT tc fix vl vA vG rows gos) : IsS87 w0 W g s (q : Int) bad := ⟨h.rd, h.ge.1⟩
/-- What is left when the rows of actions are read. -/
def goTail (s : ByteArray) (n0 n2 : Nat) (rows : List (List S93)) (qA : Nat) : Except Nat (List (List S93) × List (List Int)) := match many (many (goR s n0) n2) n0 qA with
  | .error e => .error e
  | .ok (gos, p5) => if p5 < s.size then .error p5 else .ok (rows, gos)
theorem bodS_bad {s : ByteArray} {n0 n1 n2 q e : Nat} (h : many (many (actR s n0) n1) n0 q = .error e) : bodS s n0 n1 n2 q = .error e := by
  unfold bodS
  rw [Int.toNat_natCast, h]
theorem bodS_ok {s : ByteArray} {n0 n1 n2 q qA : Nat} {rows : List (List S93)} (h : many (many (actR s n0) n1) n0 q = .ok (rows, qA)) : bodS s n0 n1 n2 q = goTail s n0 n2 rows qA := by
  unfold bodS
  rw [Int.toNat_natCast, h]
  rfl
theorem goTail_bad {s : ByteArray} {n0 n2 qA e : Nat} {rows : List (List S93)} (h : many (many (goR s n0) n2) n0 qA = .error e) : goTail s n0 n2 rows qA = .error e := by
  unfold goTail
  rw [h]
theorem goTail_ok {s : ByteArray} {n0 n2 qA q : Nat} {rows : List (List S93)} {gos : List (List Int)} (h : many (many (goR s n0) n2) n0 qA = .ok (gos, q)) : goTail s n0 n2 rows qA = if q < s.size then .error q else .ok (rows, gos) := by
  unfold goTail
  rw [h]
set_option maxRecDepth 100000 in
set_option maxHeartbeats 4000000 in
theorem rdecode_any (s : ByteArray) (w : World) (hs : s.size ≤ 140737488351232) :
    Calls Tryd.prog 10 #[.string s] w fun e w' => Below w.heap.size w w' ∧ RE (decS s) w w' e := by
  have HX0 := Lib.hid (blk_alloc (blk_new w (.cells #[nilS, nilS] 25)) (.cells #[.string s, .int .i64 0, .int .i64 (-1)] 87))
  have hI := IsS87.new w (w.alloc (.cells #[nilS, nilS] 25)) s 0 (-1) (below_alloc (Below.refl _ w) _)
  rw [World.size_alloc] at hI
  have HI := Lib.hid hI
  have HB := Lib.hid (below_alloc (below_alloc (Below.refl _ w) (.cells #[nilS, nilS] 25)) (.cells #[.string s, .int .i64 0, .int .i64 (-1)] 87))
  clear hI
  obtain ⟨q1, bad1, e1, hq1, hc1⟩ := sign0 s hs
  obtain ⟨q2, bad2, e2, hq2, hc2⟩ := sign1 s hs q1 bad1 hq1 hc1
  obtain ⟨n0, q3, bad3, e3, hq3, hn0, hc3⟩ := numStep s hs 1 2048 (by decide) (by decide) q2 bad2 hq2 (fun q => HD s 2 0 0 0 0 q ∧ decS s = tabS s 2) (fun n q => HD s 2 1 n 0 0 q ∧ decS s = tabS s 2)
    (fun ⟨⟨_, _, _, h⟩, h2⟩ n q' hw => ⟨⟨by rw [← h]; exact hw, rfl, rfl⟩, h2⟩) (fun ⟨h, h2⟩ hw => h2.trans (h.bad0 hw)) hc2
  obtain ⟨n1, q4, bad4, e4, hq4, hn1, hc4⟩ := numStep s hs 1 64 (by decide) (by decide) q3 bad3 hq3 (fun q => HD s 2 1 n0 0 0 q ∧ decS s = tabS s 2) (fun n q => HD s 2 2 n0 n 0 q ∧ decS s = tabS s 2)
    (fun ⟨⟨h1, _, _⟩, h2⟩ n q' hw => ⟨⟨_, h1, hw, rfl⟩, h2⟩) (fun ⟨h, h2⟩ hw => h2.trans (h.bad1 hw)) hc3
  obtain ⟨n2, q5, bad5, e5, hq5, hn2, hc5⟩ := numStep s hs 0 128 (by decide) (by decide) q4 bad4 hq4 (fun q => HD s 2 2 n0 n1 0 q ∧ decS s = tabS s 2) (fun n q => HD s 2 3 n0 n1 n q ∧ decS s = tabS s 2)
    (fun ⟨⟨q1, h1, h3, _⟩, h2⟩ n q' hw => ⟨⟨_, _, h1, h3, hw⟩, h2⟩) (fun ⟨h, h2⟩ hw => h2.trans (h.bad2 hw)) hc4
  have E1 := Lib.hid e1
  have E2 := Lib.hid e2
  have E3 := Lib.hid e3
  have E4 := Lib.hid e4
  have E5 := Lib.hid e5
  clear e1 e2 e3 e4 e5 hc1 hc2 hc3 hc4
  have HC5 : Hid ((bad5 = -1 ∧ decS s = bodS s n0 n1 n2 q5) ∨ Err s bad5) := Lib.hid (by
    rcases hc5 with ⟨h1, h2, h3⟩ | h
    · exact .inl ⟨h1, by rw [h3, h2.all.1]; simp only [Int.toNat_natCast]⟩
    · exact .inr h)
  clear hc5
  go_enter Tryd.func10, Tryd.ntmps10
  go_wp2_with fail
  refine (trellisref13_Reader_sign.calls (w.heap.size + 1) s 0 (-1) 84 s q1 bad1 w _ HI.out HB.out E1.out).mono ?_
  rintro e w1 ⟨rfl, hI1, hB1, hK1⟩
  have HI1 := Lib.hid hI1
  have HB1 := Lib.hid hB1
  have HX1 := Lib.hid (hK1.blk HX0.out (by omega) (by simp))
  clear hI1 hB1 hK1 HI HB HX0 E1
  go_wp2_with fail
  refine (trellisref13_Reader_sign.calls  (w.heap.size + 1) s (q1 : Int) bad1 1 s q2 bad2 w _ HI1.out HB1.out E2.out).mono ?_
  rintro e w2 ⟨rfl, hI2, hB2, hK2⟩
  have HI2 := Lib.hid hI2
  have HB2 := Lib.hid hB2
  have HX2 := Lib.hid (hK2.blk HX1.out (by omega) (by simp))
  clear hI2 hB2 hK2 HI1 HB1 HX1 E2
  go_wp2_with fail
  refine (trellisref13_Reader_number.calls 20 (w.heap.size + 1) s (q2 : Int) bad2 1 2048 n0 s q3 bad3 w _ HI2.out HB2.out E3.out).mono ?_
  rintro e w3 ⟨rfl, hI3, hB3, hK3⟩
  have HI3 := Lib.hid hI3
  have HB3 := Lib.hid hB3
  have HX3 := Lib.hid (hK3.blk HX2.out (by omega) (by simp))
  clear hI3 hB3 hK3 HI2 HB2 HX2 E3
  go_wp2_with fail
  refine (trellisref13_Reader_number.calls 20 (w.heap.size + 1) s (q3 : Int) bad3 1 64 n1 s q4 bad4 w _ HI3.out HB3.out E4.out).mono ?_
  rintro e w4 ⟨rfl, hI4, hB4, hK4⟩
  have HI4 := Lib.hid hI4
  have HB4 := Lib.hid hB4
  have HX4 := Lib.hid (hK4.blk HX3.out (by omega) (by simp))
  clear hI4 hB4 hK4 HI3 HB3 HX3 E4
  go_wp2_with fail
  refine (trellisref13_Reader_number.calls 20 (w.heap.size + 1) s (q4 : Int) bad4 0 128 n2 s q5 bad5 w _ HI4.out HB4.out E5.out).mono ?_
  rintro e w5 ⟨rfl, hI5, hB5, hK5⟩
  have HI5 := Lib.hid hI5
  have HB5 := Lib.hid hB5
  have HX5 := Lib.hid (hK5.blk HX4.out (by omega) (by simp))
  clear hI5 hB5 hK5 HI4 HB4 HX4 E5
  have hrl5 : w.heap.size + 1 < w5.heap.size := blk_lt HI5.out.1
  have HS : Hid (St w (w5.alloc (.cells #[nilS, nilS] 25)) (w.heap.size + 1) (rrC s q5 bad5) 87 w5.heap.size #[nilS, nilS] [(w.heap.size, #[nilS, nilS], 25)] nilS nilS nilS [] []) := Lib.hid {
    below := below_alloc HB5.out _
    rd := blk_alloc HI5.out.1 _
    rtp := plain87
    tb := blk_new _ _
    ge := ⟨by omega, by omega, by omega⟩
    fixed := by
      intro f hf
      simp only [List.mem_cons, List.not_mem_nil, or_false] at hf
      subst hf
      exact ⟨blk_alloc HX5.out _, plain25, by show w.heap.size ≠ w.heap.size + 1; omega, by show w.heap.size ≠ w5.heap.size; omega⟩
    rA := Kd.R_apart_nil (Kd.R_nil _ _ _ _ _)
    rG := Kd.R_apart_nil (Kd.R_nil _ _ _ _ _) }
  clear HI5 HB5 HX5
  go_wp2_with fail
  generalize hW6 : w5.alloc (.cells #[nilS, nilS] 25) = w6 at *
  generalize hbT2 : w5.heap.size = bT at *
  clear hW6 hbT2
  go_loopw [9] (fun v w' => ∃ (j q : Nat) (bad : Int) (vA : Value) (rows : List (List S93)), v = .int .i64 (j : Int) ∧ j ≤ n0 ∧ q ≤ s.size ∧ Hid (rows.length = j) ∧ Hid (St w w' (w.heap.size + 1) (rrC s q bad) 87 bT #[vA, nilS] [(w.heap.size, #[nilS, nilS], 25)] nilS vA nilS rows []) ∧ Hid ((bad = -1 ∧ decS s = bodS s n0 n1 n2 q5 ∧ cat rows (many (many (actR s n0) n1) (n0 - j) q) = many (many (actR s n0) n1) n0 q5) ∨ Err s bad)) (fun v _ => n0 - (intOf v).toNat)
  case atStart => exact ⟨0, q5, bad5, nilS, [], rfl, Nat.zero_le _, hq5, Lib.hid rfl, HS, Lib.hid (by
    rcases HC5.out with ⟨h1, h2⟩ | h
    · exact .inl ⟨h1, h2, by rw [Nat.sub_zero, cat_nil]⟩
    · exact .inr h)⟩
  case round =>
    clear HS HC5
    obtain ⟨j, q, bad, vA, rows, rfl, hj, hq, hrl, HS, HC⟩ := hrel
    have hr2 := blk_cell HS.out.rd 2
    simp at hr2
    have hnext : (∃ (_ : j < n0), bad = -1) ∨ (¬ j < n0 ∨ ¬ bad < 0) := by
      rcases HC.out with ⟨h, _⟩ | ⟨e, h, _⟩
      · by_cases h2 : j < n0
        · exact .inl ⟨h2, h⟩
        · exact .inr (.inl h2)
      · exact .inr (.inr (by omega))
    rcases hnext with ⟨hjn, rfl⟩ | hend
    · go_wp2_with fail
      have hjw : IntKind.i64.wrap ((j : Int) + 1) = (j : Int) + 1 := IntWalk.i64_in _ (by omega)
      have HRl : Hid (k93.R 93 wr w.heap.size tru nilS []) := Kd.R_nil _ _ _ _ _
      have HCi : Hid ((((-1 : Int)) = -1 ∧ cat [] (many (actR s n0) (n1 - 0) q) = many (actR s n0) n1 q) ∨ Err s (-1)) := Lib.hid (.inl ⟨rfl, by rw [Nat.sub_zero, cat_nil]⟩)
      clear hr2
      go_loopw [11, 10] (fun v vl w' => ∃ (k q2 : Nat) (bad2 : Int) (row : List S93), v = .int .i64 (k : Int) ∧ k ≤ n1 ∧ q2 ≤ s.size ∧ Hid (row.length = k) ∧ Hid (St w w' (w.heap.size + 1) (rrC s q2 bad2) 87 bT #[vA, nilS] [(w.heap.size, #[nilS, nilS], 25)] vl vA nilS rows []) ∧ Hid (k93.R 93 w' w.heap.size tru vl row) ∧ Hid ((bad2 = -1 ∧ cat row (many (actR s n0) (n1 - k) q2) = many (actR s n0) n1 q) ∨ Err s bad2)) (fun v _ _ => n1 - (intOf v).toNat)
      case atStart => exact ⟨0, q, -1, [], rfl, Nat.zero_le _, hq, Lib.hid rfl, HS, HRl, HCi⟩
      case round =>
        clear HS HRl HCi
        obtain ⟨k, q2, bad2, row, rfl, hk, hq2, hkl, HS, HRl, HCr⟩ := hrel
        have hr2 := blk_cell HS.out.rd 2
        simp at hr2
        have hnext : (∃ (_ : k < n1), bad2 = -1 ∧ cat row (many (actR s n0) (n1 - k) q2) = many (actR s n0) n1 q) ∨ (¬ k < n1 ∨ (k < n1 ∧ ¬ bad2 < 0)) := by
          by_cases h2 : k < n1
          · rcases HCr.out with h | ⟨e, h, _⟩
            · exact .inl ⟨h2, h⟩
            · exact .inr (.inr ⟨h2, by omega⟩)
          · exact .inr (.inl h2)
        rcases hnext with ⟨hkn, rfl, hcat⟩ | hend
        · have hkw : IntKind.i64.wrap ((k : Int) + 1) = (k : Int) + 1 := IntWalk.i64_in _ (by omega)
          obtain ⟨⟨r1, r2, r3, r4, r5⟩, hrf, hra⟩ := act_f s (n0 : Int) q2 hs hq2
          have hstep : ∃ (q3 : Nat) (bad3 : Int), r3 = s ∧ r4 = (q3 : Int) ∧ r5 = bad3 ∧ q3 ≤ s.size ∧ ((bad3 = -1 ∧ cat (row ++ [⟨r1, r2⟩]) (many (actR s n0) (n1 - (k + 1)) q3) = many (actR s n0) n1 q) ∨ Err s bad3) := by
            obtain ⟨m1, hm1⟩ : ∃ m, n1 - k = m + 1 := ⟨n1 - k - 1, by omega⟩
            rcases ha : actS s n0 q2 with _ | ⟨a, qa⟩
            · unfold actR2 at hra
              rw [ha] at hra
              obtain ⟨a, b, q', hq', e⟩ := hra
              simp only [Prod.mk.injEq] at e
              obtain ⟨_, _, x3, x4, x5⟩ := e
              have e1 : actR s n0 q2 = .error q2 := by unfold actR; rw [ha]
              rw [hm1, cat_bad row e1] at hcat
              rcases HC.out with ⟨_, hd, e3⟩ | ⟨e, h, _⟩
              · obtain ⟨m2, hm2⟩ : ∃ m, n0 - j = m + 1 := ⟨n0 - j - 1, by omega⟩
                rw [hm2, cat_bad rows hcat.symm] at e3
                exact ⟨q', _, x3, x4, x5, hq', .inr ⟨q2, rfl, by rw [hd]; exact bodS_bad e3.symm⟩⟩
              · omega
            · unfold actR2 at hra
              rw [ha] at hra
              simp only [Prod.mk.injEq] at hra
              obtain ⟨x1, x2, x3, x4, x5⟩ := hra
              rw [hm1, cat_more row (x := a) (q' := qa) (by unfold actR; rw [ha]), show m1 = n1 - (k + 1) by omega] at hcat
              have hqa : qa ≤ s.size := by
                unfold actS at ha
                rcases hw : within s 0 4608 q2 with _ | ⟨n, q9⟩
                · rw [hw] at ha; cases ha
                · rw [hw] at ha
                  simp only [Option.bind_some] at ha
                  have hb := within_bound hw
                  split at ha
                  · cases ha; exact hb.2.2.2
                  · cases ha
              exact ⟨qa, -1, x3, x4, x5, hqa, .inl ⟨rfl, by rw [x1, x2]; exact hcat⟩⟩
          obtain ⟨q3, bad3, x3, rfl, rfl, hq3, hcr3⟩ := hstep
          obtain rfl : s = r3 := x3.symm
          have HRF := Lib.hid hrf
          have HCr3 := Lib.hid hcr3
          have hIs := is87 HS.out
          have HIs := Lib.hid hIs
          have hbo : (row.length + 1) * 16 ≤ 140737488355328 := by have := hkl.out; omega
          clear hrf hra hcr3 hcat HCr hIs
          go_wp2_with fail
          refine (trellisref13_Reader_action.calls 20 (w.heap.size + 1) s (q2 : Int) (-1) (n0 : Int) r1 r2 s (q3 : Int) r5 w _ HIs.out HS.out.below HRF.out).mono ?_
          rintro e w7 ⟨rfl, hI7, hB7, hK7⟩
          have HS7 : Hid (St w w7 (w.heap.size + 1) (rrC s q3 r5) 87 bT #[vA, nilS] [(w.heap.size, #[nilS, nilS], 25)] u10 vA nilS rows []) := Lib.hid (HS.out.call hK7 hI7.1 hB7)
          have HRl7 : Hid (k93.R 93 w7 w.heap.size tru u10 row) := Lib.hid (Kd.R_mono (Kd.R_keep (Kd.R_types HRl.out HS.out.rd (k93_E 87 (by decide))) hK7 (fun _ hk => hk.2)) (fun _ hk => hk.1))
          have HSa := Lib.hid (HS7.out.alloc (.cells #[.int .i64 r1, .int .i64 r2] 93))
          have HRa := Lib.hid (Kd.R_alloc HRl7.out (.cells #[.int .i64 r1, .int .i64 r2] 93))
          have HLa := Lib.hid (blk_new w7 (.cells #[.int .i64 r1, .int .i64 r2] 93))
          clear hI7 hB7 hK7 HS HRl HIs HRF HS7 HRl7 hr2
          go_wp2_with ((with_reducible refine gate_builtin (b := .append) (xs := #[.tmp 52, .tmp 56]) rfl ?_); at_builtin; refine Kd.R_append_rows k93 (w0 := w) w.heap.size rfl (.tmp 52) (.tmp 56) 90 93 (.agg #[.int .i64 0, .int .i64 0]) 16 rfl Tryd.underlying90 info93 rfl (by decide) (by omega) _ row [⟨r1, r2⟩] (some ⟨w7.heap.size, 0, none⟩) 1 1 tru (fun _ => False) rfl rfl HRa.out (C_one93 HLa.out) (fun _ _ h => h) (fun _ h => h.elim) (fun _ _ => trivial) HSa.out.below HSa.out.below.size hbo ?_; intro v1 w8 ho5 hb5 hg5 hat5)
          have HS5 := Lib.hid (HSa.out.app (.inl rfl) (typed_of HRa.out) hg5 hat5 hb5)
          have HR5 := Lib.hid ho5
          clear ho5 hb5 hg5 hat5 HSa HRa HLa
          go_wp2_with fail
          go_roundw
          case rel => exact ⟨k + 1, q3, r5, row ++ [⟨r1, r2⟩], by rw [Int.natCast_add]; rfl, by omega, hq3, Lib.hid (by rw [List.length_append, hkl.out]; rfl), HS5, HR5, HCr3⟩
          case measure => simp only [intOf]; omega
        · obtain ⟨Al, cl, rfl⟩ := Kd.R_slice HRl.out
          obtain ⟨AA, cA, eA⟩ := Kd.R_slice (Kd.R_drop HS.out.rA)
          subst eA
          have HN : Hid ((bad2 = -1 ∧ decS s = bodS s n0 n1 n2 q5 ∧ cat (rows ++ [row]) (many (many (actR s n0) n1) (n0 - (j + 1)) q2) = many (many (actR s n0) n1) n0 q5) ∨ Err s bad2) := Lib.hid (by
            rcases HCr.out with ⟨hb, hcat⟩ | he
            · refine .inl ⟨hb, ?_⟩
              obtain rfl : k = n1 := by omega
              rw [Nat.sub_self, cat_done] at hcat
              rcases HC.out with ⟨_, hd, e3⟩ | ⟨e, h, _⟩
              · obtain ⟨m2, hm2⟩ : ∃ m, n0 - j = m + 1 := ⟨n0 - j - 1, by omega⟩
                rw [hm2, cat_more rows hcat.symm, show m2 = n0 - (j + 1) by omega] at e3
                exact ⟨hd, e3⟩
              · omega
            · exact .inr he)
          have hta := blk_cell HS.out.tb 0
          have htf := blk_frozen HS.out.tb 0
          simp at hta
          have HM := Lib.hid (Kd.M_row (R_ne_types HRl.out (Kd.R_drop HS.out.rA) (k93_E 90 (by decide))))
          have HA0 := Lib.hid (Kd.R_drop HS.out.rA)
          have hbo : (rows.length + 1) * 24 ≤ 140737488355328 := by have := hrl.out; omega
          clear HC HCr
          rcases hend with hk1 | ⟨hk1, hk2⟩
          all_goals
            go_wp2_with ((with_reducible refine gate_builtin (b := .append) (xs := #[.tmp 59, .tmp 61]) rfl ?_); at_builtin; refine Kd.R_append kA (w0 := w) (W := wr) w.heap.size rfl (.tmp 59) (.tmp 61) 22 90 (.slice none 0 0) 24 rfl Tryd.underlying22 info90 rfl (by decide) (by omega) (.slice AA rows.length cA) rows row [.slice Al row.length cl] tru (fun k => some k ≠ (Value.slice AA rows.length cA).ownBlock) rfl rfl HM.out (fun _ hk => ⟨trivial, hk⟩) (fun _ _ => trivial) HA0.out HS.out.below HS.out.below.size hbo ?_; intro v1 w8 ho5 hb5 hg5 hat5; obtain ⟨A5, c5, e5⟩ := Kd.R_slice ho5; rw [List.length_append, List.length_singleton] at e5; subst e5; have HS5 := Lib.hid (HS.out.drop.appA ho5 hg5 hb5); have q5_ := blk_cell HS5.out.tb 0; have qf := blk_frozen HS5.out.tb 0; simp only [List.getElem?_toArray, List.getElem?_cons_zero] at q5_; clear ho5 hb5 hg5 hat5 hta htf hr2)
            go_roundw
            case rel => exact ⟨j + 1, q2, bad2, _, rows ++ [row], by rw [Int.natCast_add]; rfl, by omega, hq2, Lib.hid (by rw [List.length_append, hrl.out]; rfl), HS5.out.setT 0 _ rfl, HN⟩
            case measure => simp only [intOf]; omega
    · have HN : Hid ((bad = -1 ∧ decS s = goTail s n0 n2 rows q) ∨ Err s bad) := Lib.hid (by
        rcases HC.out with ⟨hb, hd, e3⟩ | he
        · refine .inl ⟨hb, ?_⟩
          obtain rfl : j = n0 := by omega
          rw [Nat.sub_self, cat_done] at e3
          rw [hd, bodS_ok e3.symm]
        · exact .inr he)
      clear HC
      rcases Nat.lt_or_ge j n0 with hjn | hjn
      all_goals
        try (have hbn : ¬ bad < 0 := by omega)
        clear hend
        go_wp2_with fail
        try clear hbn hjn
        clear hr2
        have HCa : Hid ((bad = -1 ∧ decS s = goTail s n0 n2 rows q ∧ cat ([] : List (List Int)) (many (many (goR s n0) n2) (n0 - 0) q) = many (many (goR s n0) n2) n0 q) ∨ Err s bad) := Lib.hid (by
          rcases HN.out with ⟨h1, h2⟩ | h
          · exact .inl ⟨h1, h2, by rw [Nat.sub_zero, cat_nil]⟩
          · exact .inr h)
        go_loopw [12] (fun v w' => ∃ (i qi : Nat) (badi : Int) (vG : Value) (gos : List (List Int)), v = .int .i64 (i : Int) ∧ i ≤ n0 ∧ qi ≤ s.size ∧ Hid (gos.length = i) ∧ Hid (St w w' (w.heap.size + 1) (rrC s qi badi) 87 bT #[vA, vG] [(w.heap.size, #[nilS, nilS], 25)] nilS vA vG rows gos) ∧ Hid ((badi = -1 ∧ decS s = goTail s n0 n2 rows q ∧ cat gos (many (many (goR s n0) n2) (n0 - i) qi) = many (many (goR s n0) n2) n0 q) ∨ Err s badi)) (fun v _ => n0 - (intOf v).toNat)
        case atStart => exact ⟨0, q, bad, nilS, [], rfl, Nat.zero_le _, hq, Lib.hid rfl, HS, HCa⟩
        case round =>
          clear HS HCa HN
          obtain ⟨i, qi, badi, vG, gos, rfl, hi, hqi, hgl, HS, HC⟩ := hrel
          have hr2 := blk_cell HS.out.rd 2
          simp at hr2
          have hnext : (∃ (_ : i < n0), badi = -1) ∨ (¬ i < n0 ∨ (i < n0 ∧ ¬ badi < 0)) := by
            by_cases h2 : i < n0
            · rcases HC.out with ⟨h, _⟩ | ⟨e, h, _⟩
              · exact .inl ⟨h2, h⟩
              · exact .inr (.inr ⟨h2, by omega⟩)
            · exact .inr (.inl h2)
          rcases hnext with ⟨hin, rfl⟩ | hend
          · have hiw : IntKind.i64.wrap ((i : Int) + 1) = (i : Int) + 1 := IntWalk.i64_in _ (by omega)
            go_wp2_with fail
            have HRl : Hid (kI.R 3 wr w.heap.size tru nilS []) := Kd.R_nil _ _ _ _ _
            have HCi : Hid ((((-1 : Int)) = -1 ∧ cat [] (many (goR s n0) (n2 - 0) qi) = many (goR s n0) n2 qi) ∨ Err s (-1)) := Lib.hid (.inl ⟨rfl, by rw [Nat.sub_zero, cat_nil]⟩)
            clear hr2
            go_loopw [14, 13] (fun v vl w' => ∃ (k q2 : Nat) (bad2 : Int) (row : List Int), v = .int .i64 (k : Int) ∧ k ≤ n2 ∧ q2 ≤ s.size ∧ Hid (row.length = k) ∧ Hid (St w w' (w.heap.size + 1) (rrC s q2 bad2) 87 bT #[vA, vG] [(w.heap.size, #[nilS, nilS], 25)] vl vA vG rows gos) ∧ Hid (kI.R 3 w' w.heap.size tru vl row) ∧ Hid ((bad2 = -1 ∧ cat row (many (goR s n0) (n2 - k) q2) = many (goR s n0) n2 qi) ∨ Err s bad2)) (fun v _ _ => n2 - (intOf v).toNat)
            case atStart => exact ⟨0, qi, -1, [], rfl, Nat.zero_le _, hqi, Lib.hid rfl, HS, HRl, HCi⟩
            case round =>
              clear HS HRl HCi
              obtain ⟨k, q2, bad2, row, rfl, hk, hq2, hkl, HS, HRl, HCr⟩ := hrel
              have hr2 := blk_cell HS.out.rd 2
              simp at hr2
              have hnext : (∃ (_ : k < n2), bad2 = -1 ∧ cat row (many (goR s n0) (n2 - k) q2) = many (goR s n0) n2 qi) ∨ (¬ k < n2 ∨ (k < n2 ∧ ¬ bad2 < 0)) := by
                by_cases h2 : k < n2
                · rcases HCr.out with h | ⟨e, h, _⟩
                  · exact .inl ⟨h2, h⟩
                  · exact .inr (.inr ⟨h2, by omega⟩)
                · exact .inr (.inl h2)
              rcases hnext with ⟨hkn, rfl, hcat⟩ | hend
              · have hkw : IntKind.i64.wrap ((k : Int) + 1) = (k : Int) + 1 := IntWalk.i64_in _ (by omega)
                obtain ⟨m, q3, bad3, hrf, hq3, hm, hcr3⟩ := numStep s hs 0 (n0 : Int) (by decide) (by omega) q2 (-1) hq2 (fun p => p = q2) (fun n q' => within s 0 n0 q2 = some ((n : Int), q')) (fun h n q' hw => by rw [← h]; exact hw)
                  (fun _ hw => by
                    obtain ⟨m1, hm1⟩ : ∃ m, n2 - k = m + 1 := ⟨n2 - k - 1, by omega⟩
                    have e1 : goR s n0 q2 = .error q2 := by unfold goR; rw [hw]
                    rw [hm1, cat_bad row e1] at hcat
                    rcases HC.out with ⟨_, hd, e3⟩ | ⟨e, h, _⟩
                    · obtain ⟨m2, hm2⟩ : ∃ m, n0 - i = m + 1 := ⟨n0 - i - 1, by omega⟩
                      rw [hm2, cat_bad gos hcat.symm] at e3
                      rw [hd]; exact goTail_bad e3.symm
                    · omega) (.inl ⟨rfl, rfl⟩)
                have hstep : (bad3 = -1 ∧ cat (row ++ [(m : Int) - 1]) (many (goR s n0) (n2 - (k + 1)) q3) = many (goR s n0) n2 qi) ∨ Err s bad3 := by
                  rcases hcr3 with ⟨h1, h2⟩ | h
                  · obtain ⟨m1, hm1⟩ : ∃ m, n2 - k = m + 1 := ⟨n2 - k - 1, by omega⟩
                    rw [hm1, cat_more row (x := (m : Int) - 1) (q' := q3) (by unfold goR; rw [h2]), show m1 = n2 - (k + 1) by omega] at hcat
                    exact .inl ⟨h1, hcat⟩
                  · exact .inr h
                have HRF := Lib.hid hrf
                have HCr3 := Lib.hid hstep
                have HIs := Lib.hid (is87 HS.out)
                have hbo : (row.length + 1) * 8 ≤ 140737488355328 := by have := hkl.out; omega
                have hmw : IntKind.i64.wrap ((m : Int) - 1) = (m : Int) - 1 := IntWalk.i64_in _ (by omega)
                clear hrf hcr3 hcat HCr hstep
                go_wp2_with fail
                refine (trellisref13_Reader_number.calls 20 (w.heap.size + 1) s (q2 : Int) (-1) 0 (n0 : Int) m s (q3 : Int) bad3 w _ HIs.out HS.out.below HRF.out).mono ?_
                rintro e w7 ⟨rfl, hI7, hB7, hK7⟩
                have HS7 : Hid (St w w7 (w.heap.size + 1) (rrC s q3 bad3) 87 bT #[vA, vG] [(w.heap.size, #[nilS, nilS], 25)] u13 vA vG rows gos) := Lib.hid (HS.out.call hK7 hI7.1 hB7)
                have HRl7 : Hid (kI.R 3 w7 w.heap.size tru u13 row) := Lib.hid (Kd.R_mono (Kd.R_keep (Kd.R_types HRl.out HS.out.rd (kI_E 87 (by decide))) hK7 (fun _ hk => hk.2)) (fun _ hk => hk.1))
                have HSa := Lib.hid (HS7.out.alloc (.cells #[.int .i64 ((m : Int) - 1)] 3))
                have HRa := Lib.hid (Kd.R_alloc HRl7.out (.cells #[.int .i64 ((m : Int) - 1)] 3))
                have HLa := Lib.hid (blk_new w7 (.cells #[.int .i64 ((m : Int) - 1)] 3))
                clear hI7 hB7 hK7 HS HRl HIs HRF HS7 HRl7 hr2
                go_wp2_with ((with_reducible refine gate_builtin (b := .append) (xs := #[.tmp 88, .tmp 93]) rfl ?_); at_builtin; refine Kd.R_append_rows kI (w0 := w) w.heap.size rfl (.tmp 88) (.tmp 93) 95 3 (.int .i64 0) 8 rfl Tryd.underlying95 info3 rfl (by decide) (by omega) _ row [(m : Int) - 1] (some ⟨w7.heap.size, 0, none⟩) 1 1 tru (fun _ => False) rfl rfl HRa.out (C_one3 HLa.out) (fun _ _ h => h) (fun _ h => h.elim) (fun _ _ => trivial) HSa.out.below HSa.out.below.size hbo ?_; intro v1 w8 ho5 hb5 hg5 hat5)
                have HS5 := Lib.hid (HSa.out.app (.inr rfl) (typed_of HRa.out) hg5 hat5 hb5)
                have HR5 := Lib.hid ho5
                clear ho5 hb5 hg5 hat5 HSa HRa HLa hmw
                go_wp2_with fail
                go_roundw
                case rel => exact ⟨k + 1, q3, bad3, row ++ [(m : Int) - 1], by rw [Int.natCast_add]; rfl, by omega, hq3, Lib.hid (by rw [List.length_append, hkl.out]; rfl), HS5, HR5, HCr3⟩
                case measure => simp only [intOf]; omega
              · obtain ⟨Al, cl, rfl⟩ := Kd.R_slice HRl.out
                obtain ⟨AA, cA, eA⟩ := Kd.R_slice (Kd.R_drop HS.out.rG)
                subst eA
                have HN : Hid ((bad2 = -1 ∧ decS s = goTail s n0 n2 rows q ∧ cat (gos ++ [row]) (many (many (goR s n0) n2) (n0 - (i + 1)) q2) = many (many (goR s n0) n2) n0 q) ∨ Err s bad2) := Lib.hid (by
                  rcases HCr.out with ⟨hb, hcat⟩ | he
                  · refine .inl ⟨hb, ?_⟩
                    obtain rfl : k = n2 := by omega
                    rw [Nat.sub_self, cat_done] at hcat
                    rcases HC.out with ⟨_, hd, e3⟩ | ⟨e, h, _⟩
                    · obtain ⟨m2, hm2⟩ : ∃ m, n0 - i = m + 1 := ⟨n0 - i - 1, by omega⟩
                      rw [hm2, cat_more gos hcat.symm, show m2 = n0 - (i + 1) by omega] at e3
                      exact ⟨hd, e3⟩
                    · omega
                  · exact .inr he)
                have hta := blk_cell HS.out.tb 1
                have htf := blk_frozen HS.out.tb 1
                simp at hta
                have HM := Lib.hid (Kd.M_row (R_ne_types HRl.out (Kd.R_drop HS.out.rG) (kI_E 95 (by decide))))
                have HA0 := Lib.hid (Kd.R_drop HS.out.rG)
                have hbo : (gos.length + 1) * 24 ≤ 140737488355328 := by have := hgl.out; omega
                clear HC HCr
                rcases hend with hk1 | ⟨hk1, hk2⟩
                all_goals
                  go_wp2_with ((with_reducible refine gate_builtin (b := .append) (xs := #[.tmp 96, .tmp 98]) rfl ?_); at_builtin; refine Kd.R_append kG (w0 := w) (W := wr) w.heap.size rfl (.tmp 96) (.tmp 98) 23 95 (.slice none 0 0) 24 rfl Tryd.underlying23 info95 rfl (by decide) (by omega) (.slice AA gos.length cA) gos row [.slice Al row.length cl] tru (fun k => some k ≠ (Value.slice AA gos.length cA).ownBlock) rfl rfl HM.out (fun _ hk => ⟨trivial, hk⟩) (fun _ _ => trivial) HA0.out HS.out.below HS.out.below.size hbo ?_; intro v1 w8 ho5 hb5 hg5 hat5; obtain ⟨A5, c5, e5⟩ := Kd.R_slice ho5; rw [List.length_append, List.length_singleton] at e5; subst e5; have HS5 := Lib.hid (HS.out.drop.appG ho5 hg5 hb5); have q5_ := blk_cell HS5.out.tb 1; have qf := blk_frozen HS5.out.tb 1; simp only [List.getElem?_toArray, List.getElem?_cons_zero, List.getElem?_cons_succ] at q5_; clear ho5 hb5 hg5 hat5 hta htf hr2)
                  go_roundw
                  case rel => exact ⟨i + 1, q2, bad2, _, gos ++ [row], by rw [Int.natCast_add]; rfl, by omega, hq2, Lib.hid (by rw [List.length_append, hgl.out]; rfl), HS5.out.setT 1 _ rfl, HN⟩
                  case measure => simp only [intOf]; omega
          · have HN : Hid ((badi = -1 ∧ decS s = if qi < s.size then .error qi else .ok (rows, gos)) ∨ Err s badi) := Lib.hid (by
              rcases HC.out with ⟨hb, hd, e3⟩ | he
              · refine .inl ⟨hb, ?_⟩
                obtain rfl : i = n0 := by omega
                rw [Nat.sub_self, cat_done] at e3
                rw [hd, goTail_ok e3.symm]
              · exact .inr he)
            clear HC
            obtain ⟨AA, cA, eA⟩ := Kd.R_slice (Kd.R_drop HS.out.rA)
            obtain ⟨AG, cG, eG⟩ := Kd.R_slice (Kd.R_drop HS.out.rG)
            subst eA
            subst eG
            have hr1 := blk_cell HS.out.rd 1
            have hf2 := blk_frozen HS.out.rd 2
            simp at hr1
            have hNl := blk_lt (HS.out.fixed _ List.mem_cons_self).1
            have hgw := HS.out.ge.1
            have hcases : (badi = -1 ∧ qi < s.size ∧ decS s = .error qi) ∨ (badi = -1 ∧ ¬ qi < s.size ∧ decS s = .ok (rows, gos)) ∨ (∃ e : Nat, badi = (e : Int) ∧ decS s = .error e) := by
              rcases HN.out with ⟨h1, h2⟩ | h
              · by_cases h3 : qi < s.size
                · exact .inl ⟨h1, h3, by rw [h2, if_pos h3]⟩
                · exact .inr (.inl ⟨h1, h3, by rw [h2, if_neg h3]⟩)
              · exact .inr (.inr h)
            clear HN
            rcases hcases with ⟨rfl, hqs, hd⟩ | ⟨rfl, hqs, hd⟩ | ⟨eb, rfl, hd⟩
            · have HD := Lib.hid hd
              clear hd
              have HSX : Hid (St w (wr.setCell ⟨w.heap.size + 1, 2, none⟩ (.int .i64 (qi : Int))) (w.heap.size + 1) (rrC s qi (qi : Int)) 87 bT #[.slice AA rows.length cA, .slice AG gos.length cG] [(w.heap.size, #[nilS, nilS], 25)] nilS (.slice AA rows.length cA) (.slice AG gos.length cG) rows gos) := Lib.hid (HS.out.call (KeepBut.set_ (KeepBut.refl _ _ _) 2 _) (blk_put HS.out.rd 2 _ rfl) (below_set HS.out.below (by omega)))
              rcases hend with hk1 | ⟨hk1, hk2⟩
              · go_wp2_with fail
                clear hr1 hr2 hf2
                generalize wr.setCell ⟨w.heap.size + 1, 2, none⟩ (.int .i64 (qi : Int)) = X at *
                have HX := Lib.hid (HSX.out.fixed _ List.mem_cons_self).1
                have hx0 := blk_cell HX.out 0
                have hx1 := blk_cell HX.out 1
                have hx2 := blk_frozen HX.out 0
                have hx3 := blk_frozen HX.out 1
                have hr2 := blk_cell HSX.out.rd 2
                simp at hx0 hx1 hr2
                go_region
                go_wp2_with fail
                refine bodyPost_ret (results_ct rfl _ _ w.heap.size 25 #[nilS, nilS] (0, 0) _ rfl (blk_drew (blk_put (cs' := #[nilS, nilS]) (blk_put (cs' := #[nilS, nilS]) HX.out 0 _ rfl) 1 _ rfl)) Tryd.underlying25 rfl (by kernel_rfl)) rfl ?_
                refine ⟨below_drew (below_set (below_set HSX.out.below (Nat.le_refl _)) (Nat.le_refl _)), ?_⟩
                rw [HD.out]
                rfl
              · omega
            · have HD := Lib.hid hd
              clear hd
              have HX := Lib.hid (HS.out.fixed _ List.mem_cons_self).1
              have hx0 := blk_cell HX.out 0
              have hx1 := blk_cell HX.out 1
              have hx2 := blk_frozen HX.out 0
              have hx3 := blk_frozen HX.out 1
              have ht0 := blk_cell HS.out.tb 0
              have ht1 := blk_cell HS.out.tb 1
              simp at hx0 hx1 ht0 ht1
              rcases hend with hk1 | ⟨hk1, hk2⟩
              · go_wp2_with fail
                refine bodyPost_ret (results_ct rfl _ _ w.heap.size 25 #[.slice AA rows.length cA, .slice AG gos.length cG] (0, 0) _ rfl (blk_put (cs' := #[.slice AA rows.length cA, .slice AG gos.length cG]) (blk_put (cs' := #[.slice AA rows.length cA, nilS]) HX.out 0 _ rfl) 1 _ rfl) Tryd.underlying25 rfl (by kernel_rfl)) rfl ?_
                refine ⟨below_set (below_set HS.out.below (Nat.le_refl _)) (Nat.le_refl _), ?_⟩
                rw [HD.out]
                refine ⟨_, _, rfl, ?_, ?_⟩
                · exact Kd.R_set (Kd.R_set (Kd.R_drop HS.out.rA) HX.out (kA_E plain25) 0 _) (blk_set HX.out 0 _) (kA_E plain25) 1 _
                · exact Kd.R_set (Kd.R_set (Kd.R_drop HS.out.rG) HX.out (kG_E plain25) 0 _) (blk_set HX.out 0 _) (kG_E plain25) 1 _
              · omega
            · have HD := Lib.hid hd
              clear hd
              have hebz : decide ((eb : Int) < 0) = false := decide_eq_false (by omega)
              have HSX := HS
              rcases hend with hk1 | ⟨hk1, hk2⟩
              all_goals
                go_wp2_with fail
                clear hr1 hr2 hf2
                have HX := Lib.hid (HSX.out.fixed _ List.mem_cons_self).1
                have hx0 := blk_cell HX.out 0
                have hx1 := blk_cell HX.out 1
                have hx2 := blk_frozen HX.out 0
                have hx3 := blk_frozen HX.out 1
                have hr2 := blk_cell HSX.out.rd 2
                simp at hx0 hx1 hr2
                go_region
                go_wp2_with fail
                refine bodyPost_ret (results_ct rfl _ _ w.heap.size 25 #[nilS, nilS] (0, 0) _ rfl (blk_drew (blk_put (cs' := #[nilS, nilS]) (blk_put (cs' := #[nilS, nilS]) HX.out 0 _ rfl) 1 _ rfl)) Tryd.underlying25 rfl (by kernel_rfl)) rfl ?_
                refine ⟨below_drew (below_set (below_set HSX.out.below (Nat.le_refl _)) (Nat.le_refl _)), ?_⟩
                rw [HD.out]
                rfl
end Dec
end Go.Proofs.YtcijanmckhlpiaaDoor
