import Derived.Test.YtcijanmckhlpiaaPTableEncodesx0
import Derived.WalkSpells
import Derived.WalkLawsBesides
import Derived.StillTailTactics
import Derived.Lib.Hide
import Derived.BigRegion
import Derived.IntWalk
namespace Go.Proofs.Ytcijanmckhlpiaa
open Go.RowKit Go.Proofs.YtcijanmckhlpiaaW.PrintWords Go.Proofs.Ytcijanmckhlpiaa.PTableEncodes

/-- A block of whole numbers of (element) type t, at least n cells. -/
def Ints (w : World) (b t n : Nat) : Prop := ∃ ds : Array Value, w.heap[b]? = some (Obj.cells ds t (0, 0)) ∧ n ≤ ds.size ∧ ∀ j, j < n → ∃ x : Int, ds[j]? = some (Value.int .i64 x)
/-- A row of slices (block g, its element type e1), whose inner rows are blocks of whole numbers. -/
def Mine (w : World) (base g e1 e2 sz : Nat) (lens : List Nat) : Prop :=
  ∃ cs : Array Value, w.heap[g]? = some (Obj.cells cs e1 (0, 0)) ∧ ∀ (i n : Nat), lens[i]? = some n → ∃ b c : Nat, cs[i]? = some (Value.slice (some ⟨b, 0, none⟩) n c) ∧ n ≤ c ∧ base ≤ b ∧ Ints w b e2 (n * sz)
/-- What a world keeps whose blocks of types 80 and 3 alone may have been written. -/
def KeptT (w w' : World) : Prop := w.heap.size ≤ w'.heap.size ∧ ∀ (k : Nat) (cs : Array Value) (t : Nat), w.heap[k]? = some (Obj.cells cs t (0, 0)) → t ≠ 80 → t ≠ 3 → w'.heap[k]? = some (Obj.cells cs t (0, 0))

structure TI (base : Nat) (w0 w : World) (gA gG : Nat) (LA LG : List Nat) (w' : World) : Prop where
  below : Below base w0 w'
  kept : KeptT w w'
  a : Mine w' base gA 77 80 2 LA
  g : Mine w' base gG 33 3 1 LG

theorem Ints.set {w : World} {b t n b' t' : Nat} {ds : Array Value} (h : Ints w b t n) (hb : w.heap[b']? = some (Obj.cells ds t' (0, 0))) (i : Nat) (x : Int) : Ints (w.setCell ⟨b', i, none⟩ (.int .i64 x)) b t n := by
  obtain ⟨es, h1, h2, h3⟩ := h
  by_cases e : b = b'
  · subst e
    refine ⟨es.setIfInBounds i (.int .i64 x), blk_set h1 i _, by simpa using h2, fun j hj => ?_⟩
    rw [Array.getElem?_setIfInBounds]
    split
    · rename_i e
      subst e
      exact ⟨x, by rw [if_pos (by omega)]⟩
    · exact h3 j hj
  · exact ⟨es, blk_far h1 (p := ⟨b', i, none⟩) e _, h2, h3⟩
theorem Mine.set {w : World} {base g e1 e2 sz b' t' : Nat} {lens : List Nat} {ds : Array Value} (h : Mine w base g e1 e2 sz lens) (hb : w.heap[b']? = some (Obj.cells ds t' (0, 0))) (ht : t' ≠ e1) (i : Nat) (x : Int) : Mine (w.setCell ⟨b', i, none⟩ (.int .i64 x)) base g e1 e2 sz lens := by
  obtain ⟨cs, h1, h2⟩ := h
  refine ⟨cs, blk_far h1 (p := ⟨b', i, none⟩) (blk_ne h1 hb (fun e => ht e.symm)) _, fun j n hj => ?_⟩
  obtain ⟨b, c, g1, g2, g3, g4⟩ := h2 j n hj
  exact ⟨b, c, g1, g2, g3, g4.set hb i x⟩
theorem KeptT.set {w w' : World} {b t : Nat} {ds : Array Value} (h : KeptT w w') (hb : w'.heap[b]? = some (Obj.cells ds t (0, 0))) (ht : t = 80 ∨ t = 3) (i : Nat) (x : Value) : KeptT w (w'.setCell ⟨b, i, none⟩ x) := by
  refine ⟨by simpa [World.setCell] using h.1, fun k cs t' hk h1 h2 => ?_⟩
  have hk' := h.2 k cs t' hk h1 h2
  exact blk_far hk' (p := ⟨b, i, none⟩) (blk_ne hk' hb (by rcases ht with rfl | rfl <;> assumption)) _
theorem TI.set {base : Nat} {w0 w : World} {gA gG : Nat} {LA LG : List Nat} {w' : World} (h : TI base w0 w gA gG LA LG w') {b t : Nat} {ds : Array Value} (hb : w'.heap[b]? = some (Obj.cells ds t (0, 0))) (ht : t = 80 ∨ t = 3) (hbb : base ≤ b) (i : Nat) (x : Int) :
    TI base w0 w gA gG LA LG (w'.setCell ⟨b, i, none⟩ (.int .i64 x)) :=
  ⟨h.below.setCell (p := ⟨b, i, none⟩) hbb _, h.kept.set hb ht i _, h.a.set hb (by omega) i x, h.g.set hb (by omega) i x⟩
theorem TI.drew {base : Nat} {w0 w : World} {gA gG : Nat} {LA LG : List Nat} {w' : World} (h : TI base w0 w gA gG LA LG w') : TI base w0 w gA gG LA LG w'.drew := ⟨h.below.drew, h.kept, h.a, h.g⟩

theorem Ints.alloc {w : World} {b t n : Nat} (h : Ints w b t n) (o : Obj) : Ints (w.alloc o) b t n := by
  obtain ⟨es, h1, h2, h3⟩ := h
  exact ⟨es, blk_alloc h1 o, h2, h3⟩
theorem Mine.alloc {w : World} {base g e1 e2 sz : Nat} {lens : List Nat} (h : Mine w base g e1 e2 sz lens) (o : Obj) : Mine (w.alloc o) base g e1 e2 sz lens := by
  obtain ⟨cs, h1, h2⟩ := h
  refine ⟨cs, blk_alloc h1 o, fun j n hj => ?_⟩
  obtain ⟨b, c, g1, g2, g3, g4⟩ := h2 j n hj
  exact ⟨b, c, g1, g2, g3, g4.alloc o⟩
theorem TI.alloc {base : Nat} {w0 w : World} {gA gG : Nat} {LA LG : List Nat} {w' : World} (h : TI base w0 w gA gG LA LG w') (hB : base ≤ w'.heap.size) (o : Obj) : TI base w0 w gA gG LA LG (w'.alloc o) :=
  ⟨h.below.alloc hB o, ⟨by have := h.kept.1; simp; omega, fun k cs t hk h1 h2 => blk_alloc (h.kept.2 k cs t hk h1 h2) o⟩, h.a.alloc o, h.g.alloc o⟩
theorem blk_new1 (w : World) (o o' : Obj) : ((w.alloc o).alloc o').heap[w.heap.size + 1]? = some o' := by
  have h := blk_new (w.alloc o) o'
  rwa [show (w.alloc o).heap.size = w.heap.size + 1 by simp] at h

theorem at_I3 {w : World} {A : Option Addr} {n : Nat} {xs : List Int} (h : Kd.C (Kd.int .i64) w A n xs) (i : Int) (h0 : 0 ≤ i) (h1 : i < n) : ∃ ad, A = some ad ∧ w.cell? (ad.add i.toNat) = some (.int .i64 (rd xs i)) := by
  obtain ⟨ad, c, e, _, hK, hc0⟩ := Kd.C_get h (0 : Int) i h0 h1
  have hc : ∀ j u, c[j]? = some u → w.cell? (ad.add (i.toNat * 1 + j)) = some u := hc0
  have hK' : c = [.int .i64 (rd xs i)] := hK
  subst hK'
  exact ⟨ad, e, by have hq := hc 0 _ rfl; rwa [Nat.mul_one, Nat.add_zero] at hq⟩

set_option maxRecDepth 100000 in
set_option maxHeartbeats 1600000 in
theorem turned_any (w0 w : World) (gA cA gG cG : Nat) (A0 A1 : Option Addr) (c0 c1 : Nat) (l0 : List (List S80)) (l1 : List (List Int))
    (hr0 : Kd.C (Kd.slice 80 k80) w0 A0 l0.length l0) (hr1 : Kd.C (Kd.slice 3 (Kd.int .i64)) w0 A1 l1.length l1)
    (hI : TI w0.heap.size w0 w gA gG (l0.map List.length) (l1.map List.length) w) :
    Calls Try.prog 14 #[.agg #[.slice (some ⟨gA, 0, none⟩) l0.length cA, .slice (some ⟨gG, 0, none⟩) l1.length cG], .agg #[.slice A0 l0.length c0, .slice A1 l1.length c1]] w fun e w' => e = .returned (.tuple #[]) ∧ TI w0.heap.size w0 w gA gG (l0.map List.length) (l1.map List.length) w' := by
  have HI := Lib.hid hI
  have HR0 := Lib.hid hr0
  have HR1 := Lib.hid hr1
  have hL0 : l0.length ≤ 9223372036854775807 := hr0.2.1
  have hL1 : l1.length ≤ 9223372036854775807 := hr1.2.1
  clear hr0 hr1 hI
  go_enter Try.func14, Try.ntmps14
  go_wp2
  go_loopw [4] (fun v4 w' => ∃ s : Nat, v4 = .int .i64 s ∧ s ≤ l0.length ∧ Hid (TI w0.heap.size w0 w gA gG (l0.map List.length) (l1.map List.length) w') ∧ Hid (w'.heap[w.heap.size]? = some (Obj.cells #[Value.slice (some ⟨gA, 0, none⟩) l0.length cA, .slice (some ⟨gG, 0, none⟩) l1.length cG] 25 (0, 0))) ∧ Hid (w'.heap[w.heap.size + 1]? = some (Obj.cells #[Value.slice A0 l0.length c0, .slice A1 l1.length c1] 25 (0, 0)))) (fun v4 _ => l0.length - (intOf v4).toNat)
  case atStart => exact ⟨0, rfl, Nat.zero_le _, (HI.out.alloc HI.out.below.size _).alloc (by have := HI.out.below.size; simp; omega) _, blk_alloc (blk_new w _) _, blk_new1 w _ _⟩
  case round =>
    obtain ⟨s, rfl, hs, HT, HB1, HB2⟩ := hrel
    have b10 : wr.cell? ⟨w.heap.size, 0, none⟩ = some (.slice (some ⟨gA, 0, none⟩) l0.length cA) := blk_cell HB1.out 0
    have b20 : wr.cell? ⟨w.heap.size + 1, 0, none⟩ = some (.slice A0 l0.length c0) := blk_cell HB2.out 0
    by_cases hlt : s < l0.length
    · obtain ⟨ad, A', c', rfl, hcell, hle, hC⟩ := at_L2 (Kd.C_below HR0.out HT.out.below) s (by omega) (by omega)
      have hcell' : wr.cell? (ad.add s) = some (.slice A' (rd_L2 l0 s).length c') := hcell
      clear hcell
      generalize hrow : rd_L2 l0 s = row at *
      have HC := Lib.hid hC
      clear hC
      have HL := Lib.hid hle
      clear hle
      have hL2 : row.length ≤ 9223372036854775807 := HC.out.2.1
      have HROW := Lib.hid hrow
      clear hrow
      have HLT := Lib.hid hlt
      go_wp2
      go_loopw [5] (fun v5 w' => ∃ k : Nat, v5 = .int .i64 k ∧ k ≤ row.length ∧ Hid (TI w0.heap.size w0 w gA gG (l0.map List.length) (l1.map List.length) w') ∧ Hid (w'.heap[w.heap.size]? = some (Obj.cells #[Value.slice (some ⟨gA, 0, none⟩) l0.length cA, .slice (some ⟨gG, 0, none⟩) l1.length cG] 25 (0, 0))) ∧ Hid (w'.heap[w.heap.size + 1]? = some (Obj.cells #[Value.slice (some ad) l0.length c0, .slice A1 l1.length c1] 25 (0, 0)))) (fun v5 _ => row.length - (intOf v5).toNat)
      case atStart => exact ⟨0, rfl, by omega, HT, HB1, HB2⟩
      case round =>
        clear b10 b20 hcell'
        obtain ⟨k, rfl, hk, HT, HB1, HB2⟩ := hrel
        have b10 : wr.cell? ⟨w.heap.size, 0, none⟩ = some (.slice (some ⟨gA, 0, none⟩) l0.length cA) := blk_cell HB1.out 0
        have b20 : wr.cell? ⟨w.heap.size + 1, 0, none⟩ = some (.slice (some ad) l0.length c0) := blk_cell HB2.out 0
        obtain ⟨_, A'', c'', e, hcell, hle, hC⟩ := at_L2 (Kd.C_below HR0.out HT.out.below) s (by omega) (by have := HLT.out; omega)
        injection e with e
        subst e
        have g20 : wr.cell? (ad.add s) = some (.slice A'' (rd_L2 l0 s).length c'') := hcell
        clear hcell
        rw [HROW.out] at g20 hle hC
        by_cases hkl : k < row.length
        · obtain ⟨j, hj⟩ : ∃ j : Nat, row.length = j + 1 + k := ⟨row.length - 1 - k, by omega⟩
          obtain ⟨ad2, rfl, g21, g22⟩ := at_T80 hC j (by omega) (by omega)
          rw [Int.toNat_natCast] at g21 g22
          have w1 : IntKind.i64.wrap (↑row.length - 1) = ((j + k : Nat) : Int) := by rw [IntWalk.i64_in _ (by omega)]; omega
          have w2 : IntKind.i64.wrap (j : Int) = (j : Int) := IntWalk.i64_in _ (by omega)
          have w3 : (j : Int) < (row.length : Int) := by omega
          have HJ := Lib.hid hj
          clear hj
          obtain ⟨cs, hcs, hms⟩ := HT.out.a
          obtain ⟨b, c, hbc, hbl, hbb, ds, hds, hdl, hdi⟩ := hms s row.length (by rw [← HROW.out]; simp [rd_L2, HLT.out])
          have g0 : wr.cell? ⟨gA, s, none⟩ = some (.slice (some ⟨b, 0, none⟩) row.length c) := (blk_cell hcs s).trans hbc
          obtain ⟨x0, hx0⟩ := hdi (k * 2) (by omega)
          obtain ⟨x1, hx1⟩ := hdi (k * 2 + 1) (by omega)
          have g1 : wr.cell? ⟨b, k * 2, none⟩ = some (.int .i64 x0) := (blk_cell hds _).trans hx0
          have g2 : wr.cell? ⟨b, k * 2 + 1, none⟩ = some (.int .i64 x1) := (blk_cell hds _).trans hx1
          have g3 : wr.frozen? ⟨b, k * 2, none⟩ = false := blk_frozen hds _
          have g4 : wr.frozen? ⟨b, k * 2 + 1, none⟩ = false := blk_frozen hds _
          have HDS := Lib.hid hds
          have HDI := Lib.hid hdi
          have HLE := Lib.hid hle
          have HC2 := Lib.hid hC
          have HLT2 := HLT.out
          clear hcs hms hbc hx0 hx1 hds hdi hle hC
          have N1 := Lib.hid (blk_ne HB1.out HDS.out (by decide))
          have N2 := Lib.hid (blk_ne HB2.out HDS.out (by decide))
          go_wp2_with fail
          go_still_tail 22, (by kernel_rfl)
          clear w1 w2 w3
          go_wp2_with fail
          go_roundw
          case rel =>
            refine ⟨k + 1, by go_num, by omega, ((HT.out.set HDS.out (.inl rfl) hbb _ _).set (blk_set HDS.out _ _) (.inl rfl) hbb _ _).drew, ?_, ?_⟩
            · exact blk_far (blk_far HB1.out (p := ⟨b, k * 2, none⟩) N1.out _) (p := ⟨b, k * 2 + 1, none⟩) N1.out _
            · exact blk_far (blk_far HB2.out (p := ⟨b, k * 2, none⟩) N2.out _) (p := ⟨b, k * 2 + 1, none⟩) N2.out _
          case measure => simp [intOf]; omega
        · have HLT2 := HLT.out
          go_wp2_with fail
          go_roundw
          case rel => exact ⟨s + 1, by go_num, by omega, HT, HB1, HB2⟩
          case measure => simp [intOf]; omega
    · clear b10
      go_wp2_with fail
      go_loopw [6] (fun v6 w' => ∃ s : Nat, v6 = .int .i64 s ∧ s ≤ l1.length ∧ Hid (TI w0.heap.size w0 w gA gG (l0.map List.length) (l1.map List.length) w') ∧ Hid (w'.heap[w.heap.size]? = some (Obj.cells #[Value.slice (some ⟨gA, 0, none⟩) l0.length cA, .slice (some ⟨gG, 0, none⟩) l1.length cG] 25 (0, 0))) ∧ Hid (w'.heap[w.heap.size + 1]? = some (Obj.cells #[Value.slice A0 l0.length c0, .slice A1 l1.length c1] 25 (0, 0)))) (fun v6 _ => l1.length - (intOf v6).toNat)
      case atStart => exact ⟨0, rfl, Nat.zero_le _, HT, HB1, HB2⟩
      case round =>
        obtain ⟨s, rfl, hs, HT, HB1, HB2⟩ := hrel
        have b10 : wr.cell? ⟨w.heap.size, 1, none⟩ = some (.slice (some ⟨gG, 0, none⟩) l1.length cG) := blk_cell HB1.out 1
        have b20 : wr.cell? ⟨w.heap.size + 1, 1, none⟩ = some (.slice A1 l1.length c1) := blk_cell HB2.out 1
        by_cases hlt : s < l1.length
        · obtain ⟨ad, A', c', rfl, hcell, hle, hC⟩ := at_L3 (Kd.C_below HR1.out HT.out.below) s (by omega) (by omega)
          have hcell' : wr.cell? (ad.add s) = some (.slice A' (rd_L3 l1 s).length c') := hcell
          clear hcell
          generalize hrow : rd_L3 l1 s = row at *
          have HC := Lib.hid hC
          clear hC
          have HL := Lib.hid hle
          clear hle
          have hL2 : row.length ≤ 9223372036854775807 := HC.out.2.1
          have HROW := Lib.hid hrow
          clear hrow
          have HLT := Lib.hid hlt
          go_wp2
          go_loopw [7] (fun v7 w' => ∃ k : Nat, v7 = .int .i64 k ∧ k ≤ row.length ∧ Hid (TI w0.heap.size w0 w gA gG (l0.map List.length) (l1.map List.length) w') ∧ Hid (w'.heap[w.heap.size]? = some (Obj.cells #[Value.slice (some ⟨gA, 0, none⟩) l0.length cA, .slice (some ⟨gG, 0, none⟩) l1.length cG] 25 (0, 0))) ∧ Hid (w'.heap[w.heap.size + 1]? = some (Obj.cells #[Value.slice A0 l0.length c0, .slice (some ad) l1.length c1] 25 (0, 0)))) (fun v7 _ => row.length - (intOf v7).toNat)
          case atStart => exact ⟨0, rfl, by omega, HT, HB1, HB2⟩
          case round =>
            clear b10 b20 hcell'
            obtain ⟨k, rfl, hk, HT, HB1, HB2⟩ := hrel
            have b10 : wr.cell? ⟨w.heap.size, 1, none⟩ = some (.slice (some ⟨gG, 0, none⟩) l1.length cG) := blk_cell HB1.out 1
            have b20 : wr.cell? ⟨w.heap.size + 1, 1, none⟩ = some (.slice (some ad) l1.length c1) := blk_cell HB2.out 1
            obtain ⟨_, A'', c'', e, hcell, hle, hC⟩ := at_L3 (Kd.C_below HR1.out HT.out.below) s (by omega) (by have := HLT.out; omega)
            injection e with e
            subst e
            have g20 : wr.cell? (ad.add s) = some (.slice A'' (rd_L3 l1 s).length c'') := hcell
            clear hcell
            rw [HROW.out] at g20 hle hC
            by_cases hkl : k < row.length
            · obtain ⟨j, hj⟩ : ∃ j : Nat, row.length = j + 1 + k := ⟨row.length - 1 - k, by omega⟩
              obtain ⟨ad2, rfl, g21⟩ := at_I3 hC j (by omega) (by omega)
              rw [Int.toNat_natCast] at g21
              have w1 : IntKind.i64.wrap (↑row.length - 1) = ((j + k : Nat) : Int) := by rw [IntWalk.i64_in _ (by omega)]; omega
              have w2 : IntKind.i64.wrap (j : Int) = (j : Int) := IntWalk.i64_in _ (by omega)
              have w3 : (j : Int) < (row.length : Int) := by omega
              have HJ := Lib.hid hj
              clear hj
              obtain ⟨cs, hcs, hms⟩ := HT.out.g
              obtain ⟨b, c, hbc, hbl, hbb, ds, hds, hdl, hdi⟩ := hms s row.length (by rw [← HROW.out]; simp [rd_L3, HLT.out])
              have g0 : wr.cell? ⟨gG, s, none⟩ = some (.slice (some ⟨b, 0, none⟩) row.length c) := (blk_cell hcs s).trans hbc
              obtain ⟨x0, hx0⟩ := hdi k (by omega)
              have g1 : wr.cell? ⟨b, k, none⟩ = some (.int .i64 x0) := (blk_cell hds _).trans hx0
              have g3 : wr.frozen? ⟨b, k, none⟩ = false := blk_frozen hds _
              have HDS := Lib.hid hds
              have HDI := Lib.hid hdi
              have HLE := Lib.hid hle
              have HC2 := Lib.hid hC
              have HLT2 := HLT.out
              clear hcs hms hbc hx0 hds hdi hle hC
              have N1 := Lib.hid (blk_ne HB1.out HDS.out (by decide))
              have N2 := Lib.hid (blk_ne HB2.out HDS.out (by decide))
              go_wp2_with fail
              go_still_tail 22, (by kernel_rfl)
              clear w1 w2 w3
              go_wp2_with fail
              go_roundw
              case rel =>
                refine ⟨k + 1, by go_num, by omega, (HT.out.set HDS.out (.inr rfl) hbb _ _).drew, ?_, ?_⟩
                · exact blk_far HB1.out (p := ⟨b, k, none⟩) N1.out _
                · exact blk_far HB2.out (p := ⟨b, k, none⟩) N2.out _
              case measure => simp [intOf]; omega
            · have HLT2 := HLT.out
              go_wp2_with fail
              go_roundw
              case rel => exact ⟨s + 1, by go_num, by omega, HT, HB1, HB2⟩
              case measure => simp [intOf]; omega
        · go_wp2_with fail
          go_end0
          exact ⟨rfl, HT⟩
end Go.Proofs.Ytcijanmckhlpiaa
