-- Texts of this seat, cut to what is used and merged (by shake.py).
import Derived.Test.YtcijanmckhlpiaaDoorTr3
import Derived.Test.YtcijanmckhlpiaaDoorTr13
import Derived.Test.YtcijanmckhlpiaaDoorTr19
import Derived.Test.YtcijanmckhlpiaaDoorTr20
import Derived.Test.YtcijanmckhlpiaaDoorTr21
import Derived.Test.YtcijanmckhlpiaaDoorTr22
namespace Go.Proofs.YtcijanmckhlpiaaDoor
open Go.RowKit Go.Proofs.YtcijanmckhlpiaaDoorW.PrintWords Go.Proofs.YtcijanmckhlpiaaDoorW.PrintLast Go.Proofs.YtcijanmckhlpiaaDoorW.PrintMore
set_option linter.unusedVariables false
set_option linter.unusedSimpArgs false
namespace Bld
theorem C_lits {α : Type} {k : Kd α} {W : World} {b t : Nat} {cells : Array Value} (hb : W.heap[b]? = some (.cells cells t (0, 0))) (xs : List α) {n : Nat} (hn : xs.length = n) (hm : n ≤ 9223372036854775807) (h : ∀ j x, xs[j]? = some x → ∃ cs : List Value, cs.length = k.sz ∧ k.K W x cs ∧ ∀ i u, cs[i]? = some u → cells[j * k.sz + i]? = some u) : k.C W (some ⟨b, 0, none⟩) n xs := by
  refine ⟨hn, hm, fun _ => ⟨_, rfl, fun j x hx => ?_⟩⟩
  obtain ⟨cs, h1, h2, h3⟩ := h j x hx
  refine ⟨cs, h1, h2, fun i u hu => ?_⟩
  rw [Addr.add_mid, blk_cell hb, Nat.zero_add]
  exact h3 i u hu
theorem C_map {α β : Type} {d : Kd α} {d' : Kd β} (f : α → β) (hs : d.sz = d'.sz) {w : World} (h : ∀ x cs, d.K w x cs → d'.K w (f x) cs) {A : Option Addr} {n : Nat} {xs : List α} (hc : d.C w A n xs) : d'.C w A n (xs.map f) := by
  obtain ⟨h1, h2, h3⟩ := hc
  refine ⟨by rw [List.length_map]; exact h1, h2, fun hp => ?_⟩
  obtain ⟨ad, e, hh⟩ := h3 hp
  refine ⟨ad, e, fun j p hj => ?_⟩
  rw [List.getElem?_map] at hj
  cases hx : xs[j]? with
  | none => rw [hx] at hj; cases hj
  | some x =>
    rw [hx] at hj
    cases hj
    obtain ⟨cs, c1, c2, c3⟩ := hh j x hx
    exact ⟨cs, by rw [← hs]; exact c1, h x cs c2, by rw [← hs]; exact c3⟩
def cvA (a : PTableBuilds.S93) : PTableBack.S93 := ⟨a.f0, a.f1⟩
theorem cvA_K (w : World) (x : PTableBuilds.S93) (cs : List Value) (h : PTableBuilds.k93.K w x cs) : PTableBack.k93.K w (cvA x) cs := by
  obtain ⟨a, b, h1, h2, h3⟩ := h
  exact ⟨a, b, h1, h2, h3⟩
theorem C_cv {w : World} {A : Option Addr} {n : Nat} {rows : List (List PTableBuilds.S93)} (h : (Kd.slice 93 PTableBuilds.k93).C w A n rows) : (Kd.slice 93 PTableBack.k93).C w A n (rows.map (List.map cvA)) :=
  C_map (List.map cvA) rfl (fun x cs hx => by
    obtain ⟨A, c, e, hl, hC⟩ := hx
    exact ⟨A, c, by rw [List.length_map]; exact e, by rw [List.length_map]; exact hl, by rw [List.length_map]; exact C_map cvA rfl (cvA_K w) hC⟩) h
def awW (w : World) : World := ((((((w.alloc (.cells #[.string ⟨#[]⟩, .bool false, .string ⟨#[97]⟩, .bool false] 112)).alloc (.cells #[.string ⟨#[115]⟩, .int .i64 1] 115)).alloc (.cells #[.slice (some ⟨w.heap.size, 0, none⟩) 2 2, .slice (some ⟨w.heap.size + 1, 0, none⟩) 1 1, .slice (some ⟨w.heap.size + 1 + 1 + 1 + 1 + 1, 0, none⟩) 3 3] 51)).alloc (.cells #[.int .i64 2, .string ⟨#[]⟩, .string ⟨#[]⟩] 110)).alloc (.cells #[.int .i64 1, .string ⟨#[]⟩, .string ⟨#[]⟩, .int .i64 2, .string ⟨#[]⟩, .string ⟨#[]⟩] 110)).alloc (.cells #[.int .i64 (-1), .slice (some ⟨w.heap.size + 1 + 1 + 1, 0, none⟩) 1 1, .int .i64 0, .slice (some ⟨w.heap.size + 1 + 1 + 1 + 1, 0, none⟩) 2 2, .int .i64 0, .slice none 0 0] 77))
theorem awW_below (w : World) : Below w.heap.size w (awW w) := below_alloc (below_alloc (below_alloc (below_alloc (below_alloc (below_alloc (Below.refl _ _) _) _) _) _) _) _
theorem awW_blk (w : World) : (awW w).heap[w.heap.size]? = some (.cells #[.string ⟨#[]⟩, .bool false, .string ⟨#[97]⟩, .bool false] 112 (0, 0)) ∧ (awW w).heap[w.heap.size + 1]? = some (.cells #[.string ⟨#[115]⟩, .int .i64 1] 115 (0, 0))
    ∧ (awW w).heap[w.heap.size + 1 + 1]? = some (.cells #[.slice (some ⟨w.heap.size, 0, none⟩) 2 2, .slice (some ⟨w.heap.size + 1, 0, none⟩) 1 1, .slice (some ⟨w.heap.size + 1 + 1 + 1 + 1 + 1, 0, none⟩) 3 3] 51 (0, 0))
    ∧ (awW w).heap[w.heap.size + 1 + 1 + 1]? = some (.cells #[.int .i64 2, .string ⟨#[]⟩, .string ⟨#[]⟩] 110 (0, 0))
    ∧ (awW w).heap[w.heap.size + 1 + 1 + 1 + 1]? = some (.cells #[.int .i64 1, .string ⟨#[]⟩, .string ⟨#[]⟩, .int .i64 2, .string ⟨#[]⟩, .string ⟨#[]⟩] 110 (0, 0))
    ∧ (awW w).heap[w.heap.size + 1 + 1 + 1 + 1 + 1]? = some (.cells #[.int .i64 (-1), .slice (some ⟨w.heap.size + 1 + 1 + 1, 0, none⟩) 1 1, .int .i64 0, .slice (some ⟨w.heap.size + 1 + 1 + 1 + 1, 0, none⟩) 2 2, .int .i64 0, .slice none 0 0] 77 (0, 0)) := by
  have key : ∀ (W : World) (n : Nat) (o : Obj), W.heap.size = n → (W.alloc o).heap[n]? = some o := fun W n o h => by subst h; exact blk_new W o
  unfold awW
  refine ⟨?_, ?_, ?_, ?_, ?_, ?_⟩
  · exact blk_alloc (blk_alloc (blk_alloc (blk_alloc (blk_alloc (blk_new w _) _) _) _) _) _
  · exact blk_alloc (blk_alloc (blk_alloc (blk_alloc (key _ _ _ (by simp [szA])) _) _) _) _
  · exact blk_alloc (blk_alloc (blk_alloc (key _ _ _ (by simp [szA])) _) _) _
  · exact blk_alloc (blk_alloc (key _ _ _ (by simp [szA])) _) _
  · exact blk_alloc (key _ _ _ (by simp [szA])) _
  · exact key _ _ _ (by simp [szA])
section
open PTableBuilds
theorem aw_gr (w : World) : GR (awW w) (some ⟨w.heap.size, 0, none⟩) 2 gT (some ⟨w.heap.size + 1, 0, none⟩) 1 gM (some ⟨w.heap.size + 1 + 1 + 1 + 1 + 1, 0, none⟩) 3 gP := by
  obtain ⟨h1, h2, -, h4, h5, h6⟩ := awW_blk w
  refine ⟨C_lits h1 gT rfl (by decide) fun j x hx => ?_, by decide, C_lits h2 gM rfl (by decide) fun j x hx => ?_, by decide, C_lits h6 gP rfl (by decide) fun j x hx => ?_, by decide⟩
  · match j, hx with
    | 0, hx =>
      cases hx
      exact ⟨_, rfl, k112_mk _ _, fun i u hu => by
        match i, hu with
        | 0, hu => cases hu; rfl
        | 1, hu => cases hu; rfl⟩
    | 1, hx =>
      cases hx
      exact ⟨_, rfl, k112_mk _ _, fun i u hu => by
        match i, hu with
        | 0, hu => cases hu; rfl
        | 1, hu => cases hu; rfl⟩
  · match j, hx with
    | 0, hx =>
      cases hx
      exact ⟨_, rfl, k115_mk _ _, fun i u hu => by
        match i, hu with
        | 0, hu => cases hu; rfl
        | 1, hu => cases hu; rfl⟩
  · match j, hx with
    | 0, hx =>
      cases hx
      exact ⟨_, rfl, k77_mk _ ⟨-1, [rfB]⟩ (A1 := some ⟨w.heap.size + 1 + 1 + 1, 0, none⟩) (c1 := 1) (by decide) (C_lits h4 [rfB] rfl (by decide) fun j x hx => by
        match j, hx with
        | 0, hx =>
          cases hx
          exact ⟨_, rfl, k110_mk _ _, fun i u hu => by
            match i, hu with
            | 0, hu => cases hu; rfl
            | 1, hu => cases hu; rfl
            | 2, hu => cases hu; rfl⟩), fun i u hu => by
        match i, hu with
        | 0, hu => cases hu; rfl
        | 1, hu => cases hu; rfl⟩
    | 1, hx =>
      cases hx
      exact ⟨_, rfl, k77_mk _ ⟨0, [rfA, rfB]⟩ (A1 := some ⟨w.heap.size + 1 + 1 + 1 + 1, 0, none⟩) (c1 := 2) (by decide) (C_lits h5 [rfA, rfB] rfl (by decide) fun j x hx => by
        match j, hx with
        | 0, hx =>
          cases hx
          exact ⟨_, rfl, k110_mk _ _, fun i u hu => by
            match i, hu with
            | 0, hu => cases hu; rfl
            | 1, hu => cases hu; rfl
            | 2, hu => cases hu; rfl⟩
        | 1, hx =>
          cases hx
          exact ⟨_, rfl, k110_mk _ _, fun i u hu => by
            match i, hu with
            | 0, hu => cases hu; rfl
            | 1, hu => cases hu; rfl
            | 2, hu => cases hu; rfl⟩), fun i u hu => by
        match i, hu with
        | 0, hu => cases hu; rfl
        | 1, hu => cases hu; rfl⟩
    | 2, hx =>
      cases hx
      exact ⟨_, rfl, k77_mk _ ⟨0, []⟩ (A1 := none) (c1 := 0) (by decide) (Kd.C_nil _ _), fun i u hu => by
        match i, hu with
        | 0, hu => cases hu; rfl
        | 1, hu => cases hu; rfl⟩
end
theorem TbOwn.reads {W : World} {base : Nat} {A B : Option Addr} {n c m d : Nat} {rows : List (List PTableBuilds.S93)} {gos : List (List Int)} (h : TbOwn W base (.slice A n c) (.slice B m d) rows gos) (hn : rows.length = n) (hm : gos.length = m) :
    (Kd.slice 93 PTableBack.k93).C W A n (rows.map (List.map cvA)) ∧ n ≤ c ∧ (Kd.slice 3 kInt).C W B m gos ∧ m ≤ d := by
  obtain ⟨hA, hG, h1, h2, h3, h4⟩ := h.own
  obtain ⟨a1, a2, a3⟩ := Kd.R_reads' h1
  obtain ⟨b1, b2, b3⟩ := Kd.R_reads' h3
  have e1 := h2.readsH a3
  have e2 := h4.readsH b3
  have l1 := h2.len
  rw [List.length_map] at l1
  have l2 := h4.len
  rw [List.length_map] at l2
  rw [show hA.length = n by omega] at e1
  rw [show hG.length = m by omega] at e2
  exact ⟨C_cv e1, a2, e2, b2⟩
open PTableBack in
def rowsB : List (List PTableBack.S93) := [[⟨2, 2⟩, ⟨1, 1⟩], [⟨2, 2⟩, ⟨1, 1⟩], [⟨3, 0⟩, ⟨0, 0⟩], [⟨2, 1⟩, ⟨0, 0⟩]]
theorem rowsB_eq : rowsAw.map (List.map cvA) = rowsB := rfl
theorem aw_valid : PTableBack.table_Valid.f 40 rowsB gosAw 0 = some 3 := by decide +kernel
theorem aw_sh : Enc.shB rowsB gosAw = true := by decide +kernel
theorem encB_size {l : List (List PTableBack.S93)} {m : List (List Int)} (h : Enc.shB l m = true) : 3 ≤ (Enc.encB l m).size ∧ (Enc.encB l m).size ≤ 2000000 := by
  unfold Enc.encB
  rw [if_pos h, (Dec.nums_seg (Dec.image_bytes l m)).2]
  have hi := Enc.image_len (Enc.shp_of h)
  refine ⟨?_, by omega⟩
  unfold Enc.image
  have hc : 1 ≤ (Enc.cnt l.length).length := by
    unfold Enc.cnt
    split <;> simp
  simp only [List.length_append, List.length_cons, List.length_nil]
  omega
set_option maxRecDepth 100000 in
set_option maxHeartbeats 4000000 in
theorem awake_any (w : World) (hT : Tab64 w) (het : Dec.ErrType w) : Calls Tryd.prog 23 #[] w fun e w' => e = .returned (.bool true) ∧ Below w.heap.size w w' := by
  have HTB := Lib.hid (hT.below (awW_below w))
  have HET := Lib.hid (het.below (awW_below w))
  have HB1 := Lib.hid (awW_below w)
  have HG := Lib.hid (aw_gr w)
  have HX := Lib.hid (awW_blk w).2.2.1
  clear hT het
  go_enter Tryd.func23, Tryd.ntmps23
  go_wp2_with ((with_reducible refine gate_ (.load 51 (.tmp 1)) rfl ?_); refine Hid.out ?_)
  refine Lib.hid ?_
  unfold awW at HTB HET HB1 HG HX
  generalize (((((w.alloc (.cells #[.string ⟨#[]⟩, .bool false, .string ⟨#[97]⟩, .bool false] 112)).alloc (.cells #[.string ⟨#[115]⟩, .int .i64 1] 115)).alloc (.cells #[.slice (some ⟨w.heap.size, 0, none⟩) 2 2, .slice (some ⟨w.heap.size + 1, 0, none⟩) 1 1, .slice (some ⟨w.heap.size + 1 + 1 + 1 + 1 + 1, 0, none⟩) 3 3] 51)).alloc (.cells #[.int .i64 2, .string ⟨#[]⟩, .string ⟨#[]⟩] 110)).alloc (.cells #[.int .i64 1, .string ⟨#[]⟩, .string ⟨#[]⟩, .int .i64 2, .string ⟨#[]⟩, .string ⟨#[]⟩] 110)).alloc (.cells #[.int .i64 (-1), .slice (some ⟨w.heap.size + 1 + 1 + 1, 0, none⟩) 1 1, .int .i64 0, .slice (some ⟨w.heap.size + 1 + 1 + 1 + 1, 0, none⟩) 2 2, .int .i64 0, .slice none 0 0] 77) = W1 at *
  have x0 := blk_cell HX.out 0
  have x1 := blk_cell HX.out 1
  have x2 := blk_cell HX.out 2
  simp at x0 x1 x2
  have hbu := build_any _ 2 gT _ 1 gM _ 3 gP W1 HG.out aw_fair 40 aw_right 5 sol aw_sol aw_fit HTB.out aw_fitB aw_nx (by decide) 200 20 (some (ssA, gsA)) aw_sets aw_ok HET.out
  rw [show buildS gT.length gP (spotsS sol.1 sol.2 0 gP) (some (ssA, gsA)) = .inl (rowsAw, gosAw) from aw_build] at hbu
  have HBU := Lib.hid hbu
  clear hbu
  go_wp2_with (go_at_call 20; refine (HBU.out).mono ?_; rintro e2 w2 ⟨hb2, A2, c2, B2, d2, rfl, htb⟩; refine Hid.out ?_)
  refine Lib.hid ?_
  obtain ⟨r1, r2, r3, r4⟩ := htb.reads rfl rfl
  rw [rowsB_eq] at r1
  have HB2 := Lib.hid (below_step HB1.out hb2)
  have HET2 := Lib.hid (HET.out.below hb2)
  have HB3 := Lib.hid (below_alloc HB2.out (.cells #[.slice A2 rowsAw.length c2, .slice B2 gosAw.length d2] 25))
  have HX3 := Lib.hid (blk_new w2 (.cells #[.slice A2 rowsAw.length c2, .slice B2 gosAw.length d2] 25))
  have R1 := Lib.hid (Kd.C_alloc r1 (.cells #[.slice A2 rowsAw.length c2, .slice B2 gosAw.length d2] 25))
  have R3 := Lib.hid (Kd.C_alloc r3 (.cells #[.slice A2 rowsAw.length c2, .slice B2 gosAw.length d2] 25))
  clear htb r1 r3 hb2 HBU HB2 x0 x1 x2 HX HG HTB HB1
  obtain ⟨k1, hk1⟩ := (Enc.enc_ev rowsB gosAw (by decide) (by decide)).rounds
  obtain ⟨k3, hk3⟩ := (Dec.same_ev rowsB gosAw (by decide) (by decide) (by decide) (by decide)).rounds
  have hdec := Dec.dec_enc aw_sh
  have hsz := encB_size aw_sh
  generalize Enc.encB rowsB gosAw = img at *
  have HK1 := Lib.hid hk1
  have HK3 := Lib.hid hk3
  have HDEC := Lib.hid hdec
  have hs3 : 3 ≤ img.size := hsz.1
  have hs2 : img.size ≤ 140737488351232 := by omega
  clear hk1 hk3 hdec hsz
  go_wp2_with ((with_reducible refine gate_ (.load 25 (.tmp 2)) rfl ?_); refine Hid.out ?_)
  refine Lib.hid ?_
  rw [show rowsAw.length = rowsB.length from rfl] at R1 R3 HX3 HB3 r2
  rw [show rowsAw.length = rowsB.length from rfl]
  have HET3 := Lib.hid (HET2.out.below (below_alloc (Below.refl _ w2) (.cells #[.slice A2 rowsB.length c2, .slice B2 gosAw.length d2] 25)))
  generalize w2.alloc (.cells #[.slice A2 rowsB.length c2, .slice B2 gosAw.length d2] 25) = W3 at *
  generalize w2.heap.size = tb at *
  have t0 := blk_cell HX3.out 0
  have t1 := blk_cell HX3.out 1
  simp at t0 t1
  go_wp2_with (go_at_call 24; refine (PTableBack.table_Encode.calls k1 A2 c2 rowsB B2 d2 gosAw img W3 R1.out r2 R3.out r4 HK1.out).mono ?_; rintro e4 w4 ⟨rfl, hb4⟩; refine Hid.out ?_)
  refine Lib.hid ?_
  have hdc := Dec.decode_any img w4 hs2
  rw [HDEC.out] at hdc
  have HDC := Lib.hid hdc
  have HB4 := Lib.hid (below_step HB3.out hb4)
  have HX4 := Lib.hid (blk_below HX3.out hb4)
  have R14 := Lib.hid (Kd.C_below R1.out hb4)
  have R34 := Lib.hid (Kd.C_below R3.out hb4)
  have HET4 := Lib.hid (HET3.out.below hb4)
  clear hdc hb4 HB3 HX3 R1 R3 t0 t1 HET2 HET3 HET
  go_wp2_with (go_at_call 9; refine (HDC.out).mono ?_; rintro e5 w5 ⟨hb5, vA, vG, rfl, hA5, hG5⟩; refine Hid.out ?_)
  refine Lib.hid ?_
  obtain ⟨A5, c5, rfl, a5, ca5⟩ := Kd.R_reads hA5
  obtain ⟨B5, d5, rfl, b5, cb5⟩ := Kd.R_reads hG5
  have hb6 := below_alloc (Below.refl w5.heap.size w5) (.cells #[.slice A5 rowsB.length c5, .slice B5 gosAw.length d5] 25)
  have HB6 := Lib.hid (below_step (below_step HB4.out hb5) hb6)
  have HX6 := Lib.hid (blk_below (blk_below HX4.out hb5) hb6)
  have HY6 := Lib.hid (blk_new w5 (.cells #[.slice A5 rowsB.length c5, .slice B5 gosAw.length d5] 25))
  have R16 := Lib.hid (Kd.C_below (Kd.C_below R14.out hb5) hb6)
  have R36 := Lib.hid (Kd.C_below (Kd.C_below R34.out hb5) hb6)
  have R56 := Lib.hid (Kd.C_below ca5 hb6)
  have R76 := Lib.hid (Kd.C_below cb5 hb6)
  clear hA5 hG5 hb5 hb6 HB4 HX4 R14 R34 ca5 cb5 HDC
  go_wp2_with ((with_reducible refine gate_ (.fieldAddr 25 (.tmp 2) 0) rfl ?_); refine Hid.out ?_)
  refine Lib.hid ?_
  generalize w5.alloc (.cells #[.slice A5 rowsB.length c5, .slice B5 gosAw.length d5] 25) = W6 at *
  generalize w5.heap.size = ub at *
  have t0 := blk_cell HX6.out 0
  have t1 := blk_cell HX6.out 1
  simp at t0 t1
  have q1 : ((rowsB.length : Int) == 4) = true := rfl
  have q2 : decide ((img.size : Int) > 2) = true := decide_eq_true (by omega)
  go_wp2_with (go_at_call 45; refine (PTableBack.table_Valid.calls 40 A2 c2 rowsB B2 d2 gosAw 0 3 W6 R16.out r2 R36.out r4 aw_valid).mono ?_; rintro e7 w7 ⟨rfl, hb7⟩; refine Hid.out ?_)
  refine Lib.hid ?_
  have HB7 := Lib.hid (below_step HB6.out hb7)
  have HX7 := Lib.hid (blk_below HX6.out hb7)
  have HY7 := Lib.hid (blk_below HY6.out hb7)
  have R17 := Lib.hid (Kd.C_below R16.out hb7)
  have R37 := Lib.hid (Kd.C_below R36.out hb7)
  have R57 := Lib.hid (Kd.C_below R56.out hb7)
  have R77 := Lib.hid (Kd.C_below R76.out hb7)
  clear hb7 HX6 HY6 R16 R36 R56 R76 HB6 t0 t1
  have t0 := blk_cell HX7.out 0
  have t1 := blk_cell HX7.out 1
  have u0 := blk_cell HY7.out 0
  have u1 := blk_cell HY7.out 1
  simp at t0 t1 u0 u1
  go_wp2_with (go_at_call 12; refine (PTableBack.trellislaw13_same.calls k3 A2 c2 rowsB B2 d2 gosAw A5 c5 rowsB B5 d5 gosAw true w7 R17.out r2 R37.out r4 R57.out a5 R77.out b5 HK3.out).mono ?_; rintro e8 w8 ⟨rfl, hb8⟩; refine Hid.out ?_)
  refine Lib.hid ?_
  have HB8 := Lib.hid (below_step HB7.out hb8)
  clear hb8
  go_wp2_with fail
  go_ret
  exact ⟨rfl, HB8.out⟩
end Bld
end Go.Proofs.YtcijanmckhlpiaaDoor
namespace Go.Proofs.YtcijanmckhlpiaaDoor
open Go.RowKit Go.Proofs.YtcijanmckhlpiaaDoorW.PrintWords Go.Proofs.YtcijanmckhlpiaaDoorW.PrintLast Go.Proofs.YtcijanmckhlpiaaDoorW.PrintMore Go.Proofs.YtcijanmckhlpiaaDoor.PTableBack
set_option linter.unusedVariables false
set_option linter.unusedSimpArgs false
namespace Bld
theorem shp_lens {l : List (List S93)} {m : List (List Int)} (h : Enc.shB l m = true) : (∀ x ∈ l, x.length ≤ 9223372036854775807) ∧ (∀ x ∈ m, x.length ≤ 9223372036854775807) := by
  have hs := Enc.shp_of h
  exact ⟨fun x hx => by have := hs.ra x hx; omega, fun x hx => by have := hs.rg x hx; omega⟩
set_option maxRecDepth 100000 in
set_option maxHeartbeats 4000000 in
theorem tableReads_any (s : ByteArray) (w : World) (hs : s.size ≤ 140737488351232) (hT : Tab64 w) (het : Dec.ErrType w) : Calls Tryd.prog 7 #[.string s] w fun e w' => e = .returned (.bool true) ∧ Below w.heap.size w w' := by
  have HAW := Lib.hid (awake_any w hT het)
  have HET := Lib.hid het
  clear hT het
  go_enter Tryd.func7, Tryd.ntmps7
  go_wp2_with (go_at_call 23; refine (HAW.out).mono ?_; rintro e1 w1 ⟨rfl, hb1⟩; refine Hid.out ?_)
  refine Lib.hid ?_
  have HB1 := Lib.hid hb1
  have HET1 := Lib.hid (HET.out.below hb1)
  have hdc := Dec.decode_any s w1 hs
  clear hb1 HAW HET
  rcases hd : Dec.decS s with p | ⟨rows, gos⟩
  · rw [hd] at hdc
    have HDC := Lib.hid hdc
    have hp : p ≤ s.size := Dec.dec_place hd
    clear hdc hd
    go_wp2_with (go_at_call 9; refine (HDC.out).mono ?_; rintro e2 w2 ⟨hb2, ev, rfl, b, hbb, rfl, hbk⟩; refine Hid.out ?_)
    refine Lib.hid ?_
    have hb3 := below_alloc (Below.refl w2.heap.size w2) (.cells #[.slice none 0 0, .slice none 0 0] 25)
    have HB3 := Lib.hid (below_step (below_step HB1.out hb2) hb3)
    have HET3 := Lib.hid ((HET1.out.below hb2).below hb3)
    have HBK := Lib.hid (blk_below hbk hb3)
    have HX := Lib.hid (blk_new w2 (.cells #[.slice none 0 0, .slice none 0 0] 25))
    clear hb2 hb3 hbk HDC HB1 HET1
    go_wp2_with (go_at_call 11; refine (Dec.told_bad b 131 (p : Int) _ HET3.out HBK.out).mono ?_; rintro e4 w4 ⟨rfl, hb4⟩; refine Hid.out ?_)
    refine Lib.hid ?_
    have HB4 := Lib.hid (below_step HB3.out hb4)
    have HX4 := Lib.hid (blk_below HX.out hb4)
    have x0 := blk_cell HX4.out 0
    have x1 := blk_cell HX4.out 1
    simp at x0 x1
    have q1 : decide ((p : Int) ≥ 0) = true := decide_eq_true (by omega)
    have q2 : decide ((p : Int) ≤ (s.size : Int)) = true := decide_eq_true (by omega)
    clear hb4 HB3 HX HET3 HBK
    go_wp2_with fail
    go_ret
    exact ⟨rfl, HB4.out⟩
  · rw [hd] at hdc
    have HDC := Lib.hid hdc
    have hinv := Dec.dec_inv hd
    have henc := Dec.enc_dec hd
    obtain ⟨h1, h2⟩ := shp_lens hinv.1
    obtain ⟨k1, hk1⟩ := (Enc.enc_ev rows gos h1 h2).rounds
    rw [henc] at hk1
    have HK1 := Lib.hid hk1
    clear hdc hd hinv henc h1 h2 hk1
    go_wp2_with (go_at_call 9; refine (HDC.out).mono ?_; rintro e2 w2 ⟨hb2, vA, vG, rfl, hA5, hG5⟩; refine Hid.out ?_)
    refine Lib.hid ?_
    obtain ⟨A5, c5, rfl, a5, ca5⟩ := Kd.R_reads hA5
    obtain ⟨B5, d5, rfl, b5, cb5⟩ := Kd.R_reads hG5
    have hb3 := below_alloc (Below.refl w2.heap.size w2) (.cells #[.slice A5 rows.length c5, .slice B5 gos.length d5] 25)
    have HB3 := Lib.hid (below_step (below_step HB1.out hb2) hb3)
    have HX := Lib.hid (blk_new w2 (.cells #[.slice A5 rows.length c5, .slice B5 gos.length d5] 25))
    have R1 := Lib.hid (Kd.C_below ca5 hb3)
    have R3 := Lib.hid (Kd.C_below cb5 hb3)
    clear hb2 hb3 hA5 hG5 ca5 cb5 HDC HB1 HET1
    go_wp2_with ((with_reducible refine gate_ (.load 25 (.tmp 3)) rfl ?_); refine Hid.out ?_)
    refine Lib.hid ?_
    generalize w2.alloc (.cells #[.slice A5 rows.length c5, .slice B5 gos.length d5] 25) = W3 at *
    generalize w2.heap.size = tb at *
    have t0 := blk_cell HX.out 0
    have t1 := blk_cell HX.out 1
    simp at t0 t1
    have q1 : (s.toList == s.toList) = true := by simp
    go_wp2_with (go_at_call 24; refine (table_Encode.calls k1 A5 c5 rows B5 d5 gos s W3 R1.out a5 R3.out b5 HK1.out).mono ?_; rintro e4 w4 ⟨rfl, hb4⟩; refine Hid.out ?_)
    refine Lib.hid ?_
    have HB4 := Lib.hid (below_step HB3.out hb4)
    clear hb4 t0 t1
    go_wp2_with fail
    go_ret
    exact ⟨rfl, HB4.out⟩
end Bld
end Go.Proofs.YtcijanmckhlpiaaDoor
