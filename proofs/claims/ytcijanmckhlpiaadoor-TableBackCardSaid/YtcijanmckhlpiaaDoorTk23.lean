-- Texts of this seat, cut to what is used and merged (by shake.py).
import Derived.Test.YtcijanmckhlpiaaDoorTk1
import Derived.Test.YtcijanmckhlpiaaDoorTk3
import Derived.Test.YtcijanmckhlpiaaDoorTk13
import Derived.Test.YtcijanmckhlpiaaDoorTk15
import Derived.Test.YtcijanmckhlpiaaDoorTk19
import Derived.Test.YtcijanmckhlpiaaDoorTk20
import Derived.Test.YtcijanmckhlpiaaDoorTk21
import Derived.Test.YtcijanmckhlpiaaDoorTk22
import Derived.Deep.Slices
import Derived.ChangeArms
import Derived.DataReads
import Derived.SizedLaws
import Derived.Lib.SmallJoins
namespace Go.Proofs.YtcijanmckhlpiaaDoor
open Go.RowKit Go.Proofs.YtcijanmckhlpiaaDoorW.PrintWords Go.Proofs.YtcijanmckhlpiaaDoorW.PrintLast Go.Proofs.YtcijanmckhlpiaaDoorW.PrintMore
set_option linter.unusedVariables false
set_option linter.unusedSimpArgs false
namespace Bld
theorem C_lits {α : Type} {k : Kd α} {W : World} {b t : Nat} {cells : Array Value} (hb : W.heap[b]? = some (.cells cells t (0, 0))) (xs : List α) {n : Nat} (hn : xs.length = n) (hm : n ≤ 9223372036854775807) (h : ∀ j x, xs[j]? = some x → ∃ cs : List Value, cs.length = k.sz ∧ k.K W x cs ∧ ∀ i u, cs[i]? = some u → cells[j * k.sz + i]? = some u) : k.C W (some ⟨b, 0, none⟩) n xs := by
  refine ⟨hn, hm, fun _ => ⟨_, rfl, fun j x hx => ?_⟩⟩
  obtain ⟨cs, h1, h2, h3⟩ := h j x hx
  refine ⟨cs, h1, h2, fun i u hu => ?_⟩
  rw [Addr.add_mid, blk_cell hb, Nat.zero_add]
  exact h3 i u hu
theorem C_map {α β : Type} {d : Kd α} {d' : Kd β} (f : α → β) (hs : d.sz = d'.sz) {w : World} (h : ∀ x cs, d.K w x cs → d'.K w (f x) cs) {A : Option Addr} {n : Nat} {xs : List α} (hc : d.C w A n xs) : d'.C w A n (xs.map f) := by
  obtain ⟨h1, h2, h3⟩ := hc
  refine ⟨by rw [List.length_map]; exact h1, h2, fun hp => ?_⟩
  obtain ⟨ad, e, hh⟩ := h3 hp
  refine ⟨ad, e, fun j p hj => ?_⟩
  rw [List.getElem?_map] at hj
  cases hx : xs[j]? with
  | none => rw [hx] at hj; cases hj
  | some x =>
    rw [hx] at hj
    cases hj
    obtain ⟨cs, c1, c2, c3⟩ := hh j x hx
    exact ⟨cs, by rw [← hs]; exact c1, h x cs c2, by rw [← hs]; exact c3⟩
def cvA (a : PTableBuilds.S93) : PTableBack.S93 := ⟨a.f0, a.f1⟩
theorem cvA_K (w : World) (x : PTableBuilds.S93) (cs : List Value) (h : PTableBuilds.k93.K w x cs) : PTableBack.k93.K w (cvA x) cs := by
  obtain ⟨a, b, h1, h2, h3⟩ := h
  exact ⟨a, b, h1, h2, h3⟩
theorem C_cv {w : World} {A : Option Addr} {n : Nat} {rows : List (List PTableBuilds.S93)} (h : (Kd.slice 93 PTableBuilds.k93).C w A n rows) : (Kd.slice 93 PTableBack.k93).C w A n (rows.map (List.map cvA)) :=
  C_map (List.map cvA) rfl (fun x cs hx => by
    obtain ⟨A, c, e, hl, hC⟩ := hx
    exact ⟨A, c, by rw [List.length_map]; exact e, by rw [List.length_map]; exact hl, by rw [List.length_map]; exact C_map cvA rfl (cvA_K w) hC⟩) h
def awW (w : World) : World := ((((((w.alloc (.cells #[.string ⟨#[]⟩, .bool false, .string ⟨#[97]⟩, .bool false] 112)).alloc (.cells #[.string ⟨#[115]⟩, .int .i64 1] 115)).alloc (.cells #[.slice (some ⟨w.heap.size, 0, none⟩) 2 2, .slice (some ⟨w.heap.size + 1, 0, none⟩) 1 1, .slice (some ⟨w.heap.size + 1 + 1 + 1 + 1 + 1, 0, none⟩) 3 3] 51)).alloc (.cells #[.int .i64 2, .string ⟨#[]⟩, .string ⟨#[]⟩] 110)).alloc (.cells #[.int .i64 1, .string ⟨#[]⟩, .string ⟨#[]⟩, .int .i64 2, .string ⟨#[]⟩, .string ⟨#[]⟩] 110)).alloc (.cells #[.int .i64 (-1), .slice (some ⟨w.heap.size + 1 + 1 + 1, 0, none⟩) 1 1, .int .i64 0, .slice (some ⟨w.heap.size + 1 + 1 + 1 + 1, 0, none⟩) 2 2, .int .i64 0, .slice none 0 0] 77))
theorem awW_below (w : World) : Below w.heap.size w (awW w) := below_alloc (below_alloc (below_alloc (below_alloc (below_alloc (below_alloc (Below.refl _ _) _) _) _) _) _) _
theorem awW_blk (w : World) : (awW w).heap[w.heap.size]? = some (.cells #[.string ⟨#[]⟩, .bool false, .string ⟨#[97]⟩, .bool false] 112 (0, 0)) ∧ (awW w).heap[w.heap.size + 1]? = some (.cells #[.string ⟨#[115]⟩, .int .i64 1] 115 (0, 0))
    ∧ (awW w).heap[w.heap.size + 1 + 1]? = some (.cells #[.slice (some ⟨w.heap.size, 0, none⟩) 2 2, .slice (some ⟨w.heap.size + 1, 0, none⟩) 1 1, .slice (some ⟨w.heap.size + 1 + 1 + 1 + 1 + 1, 0, none⟩) 3 3] 51 (0, 0))
    ∧ (awW w).heap[w.heap.size + 1 + 1 + 1]? = some (.cells #[.int .i64 2, .string ⟨#[]⟩, .string ⟨#[]⟩] 110 (0, 0))
    ∧ (awW w).heap[w.heap.size + 1 + 1 + 1 + 1]? = some (.cells #[.int .i64 1, .string ⟨#[]⟩, .string ⟨#[]⟩, .int .i64 2, .string ⟨#[]⟩, .string ⟨#[]⟩] 110 (0, 0))
    ∧ (awW w).heap[w.heap.size + 1 + 1 + 1 + 1 + 1]? = some (.cells #[.int .i64 (-1), .slice (some ⟨w.heap.size + 1 + 1 + 1, 0, none⟩) 1 1, .int .i64 0, .slice (some ⟨w.heap.size + 1 + 1 + 1 + 1, 0, none⟩) 2 2, .int .i64 0, .slice none 0 0] 77 (0, 0)) := by
  have key : ∀ (W : World) (n : Nat) (o : Obj), W.heap.size = n → (W.alloc o).heap[n]? = some o := fun W n o h => by subst h; exact blk_new W o
  unfold awW
  refine ⟨?_, ?_, ?_, ?_, ?_, ?_⟩
  · exact blk_alloc (blk_alloc (blk_alloc (blk_alloc (blk_alloc (blk_new w _) _) _) _) _) _
  · exact blk_alloc (blk_alloc (blk_alloc (blk_alloc (key _ _ _ (by simp [szA])) _) _) _) _
  · exact blk_alloc (blk_alloc (blk_alloc (key _ _ _ (by simp [szA])) _) _) _
  · exact blk_alloc (blk_alloc (key _ _ _ (by simp [szA])) _) _
  · exact blk_alloc (key _ _ _ (by simp [szA])) _
  · exact key _ _ _ (by simp [szA])
section
open PTableBuilds
theorem aw_gr (w : World) : GR (awW w) (some ⟨w.heap.size, 0, none⟩) 2 gT (some ⟨w.heap.size + 1, 0, none⟩) 1 gM (some ⟨w.heap.size + 1 + 1 + 1 + 1 + 1, 0, none⟩) 3 gP := by
  obtain ⟨h1, h2, -, h4, h5, h6⟩ := awW_blk w
  refine ⟨C_lits h1 gT rfl (by decide) fun j x hx => ?_, by decide, C_lits h2 gM rfl (by decide) fun j x hx => ?_, by decide, C_lits h6 gP rfl (by decide) fun j x hx => ?_, by decide⟩
  · match j, hx with
    | 0, hx =>
      cases hx
      exact ⟨_, rfl, k112_mk _ _, fun i u hu => by
        match i, hu with
        | 0, hu => cases hu; rfl
        | 1, hu => cases hu; rfl⟩
    | 1, hx =>
      cases hx
      exact ⟨_, rfl, k112_mk _ _, fun i u hu => by
        match i, hu with
        | 0, hu => cases hu; rfl
        | 1, hu => cases hu; rfl⟩
  · match j, hx with
    | 0, hx =>
      cases hx
      exact ⟨_, rfl, k115_mk _ _, fun i u hu => by
        match i, hu with
        | 0, hu => cases hu; rfl
        | 1, hu => cases hu; rfl⟩
  · match j, hx with
    | 0, hx =>
      cases hx
      exact ⟨_, rfl, k77_mk _ ⟨-1, [rfB]⟩ (A1 := some ⟨w.heap.size + 1 + 1 + 1, 0, none⟩) (c1 := 1) (by decide) (C_lits h4 [rfB] rfl (by decide) fun j x hx => by
        match j, hx with
        | 0, hx =>
          cases hx
          exact ⟨_, rfl, k110_mk _ _, fun i u hu => by
            match i, hu with
            | 0, hu => cases hu; rfl
            | 1, hu => cases hu; rfl
            | 2, hu => cases hu; rfl⟩), fun i u hu => by
        match i, hu with
        | 0, hu => cases hu; rfl
        | 1, hu => cases hu; rfl⟩
    | 1, hx =>
      cases hx
      exact ⟨_, rfl, k77_mk _ ⟨0, [rfA, rfB]⟩ (A1 := some ⟨w.heap.size + 1 + 1 + 1 + 1, 0, none⟩) (c1 := 2) (by decide) (C_lits h5 [rfA, rfB] rfl (by decide) fun j x hx => by
        match j, hx with
        | 0, hx =>
          cases hx
          exact ⟨_, rfl, k110_mk _ _, fun i u hu => by
            match i, hu with
            | 0, hu => cases hu; rfl
            | 1, hu => cases hu; rfl
            | 2, hu => cases hu; rfl⟩
        | 1, hx =>
          cases hx
          exact ⟨_, rfl, k110_mk _ _, fun i u hu => by
            match i, hu with
            | 0, hu => cases hu; rfl
            | 1, hu => cases hu; rfl
            | 2, hu => cases hu; rfl⟩), fun i u hu => by
        match i, hu with
        | 0, hu => cases hu; rfl
        | 1, hu => cases hu; rfl⟩
    | 2, hx =>
      cases hx
      exact ⟨_, rfl, k77_mk _ ⟨0, []⟩ (A1 := none) (c1 := 0) (by decide) (Kd.C_nil _ _), fun i u hu => by
        match i, hu with
        | 0, hu => cases hu; rfl
        | 1, hu => cases hu; rfl⟩
end
theorem TbOwn.reads {W : World} {base : Nat} {A B : Option Addr} {n c m d : Nat} {rows : List (List PTableBuilds.S93)} {gos : List (List Int)} (h : TbOwn W base (.slice A n c) (.slice B m d) rows gos) (hn : rows.length = n) (hm : gos.length = m) :
    (Kd.slice 93 PTableBack.k93).C W A n (rows.map (List.map cvA)) ∧ n ≤ c ∧ (Kd.slice 3 kInt).C W B m gos ∧ m ≤ d := by
  obtain ⟨hA, hG, h1, h2, h3, h4⟩ := h.own
  obtain ⟨a1, a2, a3⟩ := Kd.R_reads' h1
  obtain ⟨b1, b2, b3⟩ := Kd.R_reads' h3
  have e1 := h2.readsH a3
  have e2 := h4.readsH b3
  have l1 := h2.len
  rw [List.length_map] at l1
  have l2 := h4.len
  rw [List.length_map] at l2
  rw [show hA.length = n by omega] at e1
  rw [show hG.length = m by omega] at e2
  exact ⟨C_cv e1, a2, e2, b2⟩
open PTableBack in
def rowsB : List (List PTableBack.S93) := [[⟨2, 2⟩, ⟨1, 1⟩], [⟨2, 2⟩, ⟨1, 1⟩], [⟨3, 0⟩, ⟨0, 0⟩], [⟨2, 1⟩, ⟨0, 0⟩]]
theorem rowsB_eq : rowsAw.map (List.map cvA) = rowsB := rfl
theorem aw_valid : PTableBack.table_Valid.f 40 rowsB gosAw 0 = some 3 := by decide +kernel
theorem aw_sh : Enc.shB rowsB gosAw = true := by decide +kernel
theorem encB_size {l : List (List PTableBack.S93)} {m : List (List Int)} (h : Enc.shB l m = true) : 3 ≤ (Enc.encB l m).size ∧ (Enc.encB l m).size ≤ 2000000 := by
  unfold Enc.encB
  rw [if_pos h, (Dec.nums_seg (Dec.image_bytes l m)).2]
  have hi := Enc.image_len (Enc.shp_of h)
  refine ⟨?_, by omega⟩
  unfold Enc.image
  have hc : 1 ≤ (Enc.cnt l.length).length := by
    unfold Enc.cnt
    split <;> simp
  simp only [List.length_append, List.length_cons, List.length_nil]
  omega
set_option maxRecDepth 100000 in
set_option maxHeartbeats 4000000 in
theorem awake_any (w : World) (hT : Tab64 w) (het : Dec.ErrType w) : Calls Tryd.prog 23 #[] w fun e w' => e = .returned (.bool true) ∧ Below w.heap.size w w' := by
  have HTB := Lib.hid (hT.below (awW_below w))
  have HET := Lib.hid (het.below (awW_below w))
  have HB1 := Lib.hid (awW_below w)
  have HG := Lib.hid (aw_gr w)
  have HX := Lib.hid (awW_blk w).2.2.1
  clear hT het
  go_enter Tryd.func23, Tryd.ntmps23
  go_wp2_with ((with_reducible refine gate_ (.load 51 (.tmp 1)) rfl ?_); refine Hid.out ?_)
  refine Lib.hid ?_
  unfold awW at HTB HET HB1 HG HX
  generalize (((((w.alloc (.cells #[.string ⟨#[]⟩, .bool false, .string ⟨#[97]⟩, .bool false] 112)).alloc (.cells #[.string ⟨#[115]⟩, .int .i64 1] 115)).alloc (.cells #[.slice (some ⟨w.heap.size, 0, none⟩) 2 2, .slice (some ⟨w.heap.size + 1, 0, none⟩) 1 1, .slice (some ⟨w.heap.size + 1 + 1 + 1 + 1 + 1, 0, none⟩) 3 3] 51)).alloc (.cells #[.int .i64 2, .string ⟨#[]⟩, .string ⟨#[]⟩] 110)).alloc (.cells #[.int .i64 1, .string ⟨#[]⟩, .string ⟨#[]⟩, .int .i64 2, .string ⟨#[]⟩, .string ⟨#[]⟩] 110)).alloc (.cells #[.int .i64 (-1), .slice (some ⟨w.heap.size + 1 + 1 + 1, 0, none⟩) 1 1, .int .i64 0, .slice (some ⟨w.heap.size + 1 + 1 + 1 + 1, 0, none⟩) 2 2, .int .i64 0, .slice none 0 0] 77) = W1 at *
  have x0 := blk_cell HX.out 0
  have x1 := blk_cell HX.out 1
  have x2 := blk_cell HX.out 2
  simp at x0 x1 x2
  have hbu := build_any _ 2 gT _ 1 gM _ 3 gP W1 HG.out aw_fair 40 aw_right 5 sol aw_sol aw_fit HTB.out aw_fitB aw_nx (by decide) 200 20 (some (ssA, gsA)) aw_sets aw_ok HET.out
  rw [show buildS gT.length gP (spotsS sol.1 sol.2 0 gP) (some (ssA, gsA)) = .inl (rowsAw, gosAw) from aw_build] at hbu
  have HBU := Lib.hid hbu
  clear hbu
  go_wp2_with (go_at_call 20; refine (HBU.out).mono ?_; rintro e2 w2 ⟨hb2, A2, c2, B2, d2, rfl, htb⟩; refine Hid.out ?_)
  refine Lib.hid ?_
  obtain ⟨r1, r2, r3, r4⟩ := htb.reads rfl rfl
  rw [rowsB_eq] at r1
  have HB2 := Lib.hid (below_step HB1.out hb2)
  have HET2 := Lib.hid (HET.out.below hb2)
  have HB3 := Lib.hid (below_alloc HB2.out (.cells #[.slice A2 rowsAw.length c2, .slice B2 gosAw.length d2] 25))
  have HX3 := Lib.hid (blk_new w2 (.cells #[.slice A2 rowsAw.length c2, .slice B2 gosAw.length d2] 25))
  have R1 := Lib.hid (Kd.C_alloc r1 (.cells #[.slice A2 rowsAw.length c2, .slice B2 gosAw.length d2] 25))
  have R3 := Lib.hid (Kd.C_alloc r3 (.cells #[.slice A2 rowsAw.length c2, .slice B2 gosAw.length d2] 25))
  clear htb r1 r3 hb2 HBU HB2 x0 x1 x2 HX HG HTB HB1
  obtain ⟨k1, hk1⟩ := (Enc.enc_ev rowsB gosAw (by decide) (by decide)).rounds
  obtain ⟨k3, hk3⟩ := (Dec.same_ev rowsB gosAw (by decide) (by decide) (by decide) (by decide)).rounds
  have hdec := Dec.dec_enc aw_sh
  have hsz := encB_size aw_sh
  generalize Enc.encB rowsB gosAw = img at *
  have HK1 := Lib.hid hk1
  have HK3 := Lib.hid hk3
  have HDEC := Lib.hid hdec
  have hs3 : 3 ≤ img.size := hsz.1
  have hs2 : img.size ≤ 140737488351232 := by omega
  clear hk1 hk3 hdec hsz
  go_wp2_with ((with_reducible refine gate_ (.load 25 (.tmp 2)) rfl ?_); refine Hid.out ?_)
  refine Lib.hid ?_
  rw [show rowsAw.length = rowsB.length from rfl] at R1 R3 HX3 HB3 r2
  rw [show rowsAw.length = rowsB.length from rfl]
  have HET3 := Lib.hid (HET2.out.below (below_alloc (Below.refl _ w2) (.cells #[.slice A2 rowsB.length c2, .slice B2 gosAw.length d2] 25)))
  generalize w2.alloc (.cells #[.slice A2 rowsB.length c2, .slice B2 gosAw.length d2] 25) = W3 at *
  generalize w2.heap.size = tb at *
  have t0 := blk_cell HX3.out 0
  have t1 := blk_cell HX3.out 1
  simp at t0 t1
  go_wp2_with (go_at_call 24; refine (PTableBack.table_Encode.calls k1 A2 c2 rowsB B2 d2 gosAw img W3 R1.out r2 R3.out r4 HK1.out).mono ?_; rintro e4 w4 ⟨rfl, hb4⟩; refine Hid.out ?_)
  refine Lib.hid ?_
  have hdc := Dec.decode_any img w4 hs2
  rw [HDEC.out] at hdc
  have HDC := Lib.hid hdc
  have HB4 := Lib.hid (below_step HB3.out hb4)
  have HX4 := Lib.hid (blk_below HX3.out hb4)
  have R14 := Lib.hid (Kd.C_below R1.out hb4)
  have R34 := Lib.hid (Kd.C_below R3.out hb4)
  have HET4 := Lib.hid (HET3.out.below hb4)
  clear hdc hb4 HB3 HX3 R1 R3 t0 t1 HET2 HET3 HET
  go_wp2_with (go_at_call 9; refine (HDC.out).mono ?_; rintro e5 w5 ⟨hb5, vA, vG, rfl, hA5, hG5⟩; refine Hid.out ?_)
  refine Lib.hid ?_
  obtain ⟨A5, c5, rfl, a5, ca5⟩ := Kd.R_reads hA5
  obtain ⟨B5, d5, rfl, b5, cb5⟩ := Kd.R_reads hG5
  have hb6 := below_alloc (Below.refl w5.heap.size w5) (.cells #[.slice A5 rowsB.length c5, .slice B5 gosAw.length d5] 25)
  have HB6 := Lib.hid (below_step (below_step HB4.out hb5) hb6)
  have HX6 := Lib.hid (blk_below (blk_below HX4.out hb5) hb6)
  have HY6 := Lib.hid (blk_new w5 (.cells #[.slice A5 rowsB.length c5, .slice B5 gosAw.length d5] 25))
  have R16 := Lib.hid (Kd.C_below (Kd.C_below R14.out hb5) hb6)
  have R36 := Lib.hid (Kd.C_below (Kd.C_below R34.out hb5) hb6)
  have R56 := Lib.hid (Kd.C_below ca5 hb6)
  have R76 := Lib.hid (Kd.C_below cb5 hb6)
  clear hA5 hG5 hb5 hb6 HB4 HX4 R14 R34 ca5 cb5 HDC
  go_wp2_with ((with_reducible refine gate_ (.fieldAddr 25 (.tmp 2) 0) rfl ?_); refine Hid.out ?_)
  refine Lib.hid ?_
  generalize w5.alloc (.cells #[.slice A5 rowsB.length c5, .slice B5 gosAw.length d5] 25) = W6 at *
  generalize w5.heap.size = ub at *
  have t0 := blk_cell HX6.out 0
  have t1 := blk_cell HX6.out 1
  simp at t0 t1
  have q1 : ((rowsB.length : Int) == 4) = true := rfl
  have q2 : decide ((img.size : Int) > 2) = true := decide_eq_true (by omega)
  go_wp2_with (go_at_call 45; refine (PTableBack.table_Valid.calls 40 A2 c2 rowsB B2 d2 gosAw 0 3 W6 R16.out r2 R36.out r4 aw_valid).mono ?_; rintro e7 w7 ⟨rfl, hb7⟩; refine Hid.out ?_)
  refine Lib.hid ?_
  have HB7 := Lib.hid (below_step HB6.out hb7)
  have HX7 := Lib.hid (blk_below HX6.out hb7)
  have HY7 := Lib.hid (blk_below HY6.out hb7)
  have R17 := Lib.hid (Kd.C_below R16.out hb7)
  have R37 := Lib.hid (Kd.C_below R36.out hb7)
  have R57 := Lib.hid (Kd.C_below R56.out hb7)
  have R77 := Lib.hid (Kd.C_below R76.out hb7)
  clear hb7 HX6 HY6 R16 R36 R56 R76 HB6 t0 t1
  have t0 := blk_cell HX7.out 0
  have t1 := blk_cell HX7.out 1
  have u0 := blk_cell HY7.out 0
  have u1 := blk_cell HY7.out 1
  simp at t0 t1 u0 u1
  go_wp2_with (go_at_call 12; refine (PTableBack.trellislaw13_same.calls k3 A2 c2 rowsB B2 d2 gosAw A5 c5 rowsB B5 d5 gosAw true w7 R17.out r2 R37.out r4 R57.out a5 R77.out b5 HK3.out).mono ?_; rintro e8 w8 ⟨rfl, hb8⟩; refine Hid.out ?_)
  refine Lib.hid ?_
  have HB8 := Lib.hid (below_step HB7.out hb8)
  clear hb8
  go_wp2_with fail
  go_ret
  exact ⟨rfl, HB8.out⟩
end Bld
end Go.Proofs.YtcijanmckhlpiaaDoor
namespace Go.Proofs.YtcijanmckhlpiaaDoor
open Go.RowKit Go.Proofs.YtcijanmckhlpiaaDoorW.PrintWords Go.Proofs.YtcijanmckhlpiaaDoorW.PrintLast Go.Proofs.YtcijanmckhlpiaaDoorW.PrintMore Go.Proofs.YtcijanmckhlpiaaDoor.PTableBack
set_option linter.unusedVariables false
set_option linter.unusedSimpArgs false
namespace Dec
theorem pre_append (s t : ByteArray) : Pre s (s ++ t) := by
  refine ⟨by rw [ByteArray.size_append]; omega, fun p hp => ?_⟩
  unfold bt
  rw [Int.toNat_natCast, dif_pos hp, dif_pos (by rw [ByteArray.size_append]; omega)]
  congr 2
  rw [ByteArray.getElem_append_left hp]
theorem pre_extract (s : ByteArray) (n : Nat) (hn : n ≤ s.size) : Pre (s.extract 0 n) s := by
  have hz : (s.extract 0 n).size = n := by rw [ByteArray.size_extract]; omega
  refine ⟨by omega, fun p hp => ?_⟩
  unfold bt
  rw [Int.toNat_natCast, dif_pos hp, dif_pos (by omega)]
  congr 2
  rw [ByteArray.getElem_extract]
  congr 1
  omega
theorem plain_false {l : List (List S93)} {m : List (List Int)} (h : Enc.shB l m = false) (hl : l.length = m.length) (h0 : l.length ≠ 0) : trellislaw13_plain.f l m = some false := by
  unfold trellislaw13_plain.f
  by_cases h1 : l.length = 1
  · obtain ⟨r, rfl⟩ := List.length_eq_one_iff.1 h1
    obtain ⟨g, rfl⟩ := List.length_eq_one_iff.1 (show m.length = 1 by rw [← hl]; exact h1)
    show (if (1 : Int) = 1 then if (0 : Int) < 1 then (if (r.length : Int) = 1 then (if (0 : Int) < 1 then (if (g.length : Int) = 0 then (if 0 < (r.length : Int) then (some (((rd_T93 r 0).f0) == 0 && (((rd_T93 r 0).f1) == 0))) else (none)) else (some false)) else (none)) else (some false)) else (none) else (some false)) = some false
    rw [if_pos rfl, if_pos (by decide)]
    by_cases h2 : r.length = 1
    · obtain ⟨a, rfl⟩ := List.length_eq_one_iff.1 h2
      show (if (1 : Int) = 1 then (if (0 : Int) < 1 then (if (g.length : Int) = 0 then (if (0 : Int) < 1 then (some (((rd_T93 [a] 0).f0) == 0 && (((rd_T93 [a] 0).f1) == 0))) else (none)) else (some false)) else (none)) else (some false)) = some false
      rw [if_pos rfl, if_pos (by decide)]
      by_cases h3 : g.length = 0
      · obtain rfl := List.eq_nil_of_length_eq_zero h3
        show (if (0 : Int) = 0 then (if (0 : Int) < 1 then (some (((rd_T93 [a] 0).f0) == 0 && (((rd_T93 [a] 0).f1) == 0))) else (none)) else (some false)) = some false
        rw [if_pos rfl, if_pos (by decide)]
        obtain ⟨x, y⟩ := a
        show some (x == 0 && y == 0) = some false
        by_cases hx : x = 0
        · by_cases hy : y = 0
          · subst hx; subst hy
            revert h
            decide
          · simp [hy]
        · simp [hx]
      · rw [if_neg (by omega)]
    · rw [if_neg (by omega)]
  · rw [if_neg (by omega)]
theorem encB_false {l : List (List S93)} {m : List (List Int)} (h : Enc.shB l m = false) : Enc.encB l m = ⟨#[]⟩ := by
  unfold Enc.encB
  rw [h]
  rfl
theorem encB_head {l : List (List S93)} {m : List (List Int)} (h : Enc.shB l m = true) : bt (Enc.encB l m) 0 = 84 := by
  unfold Enc.encB
  rw [if_pos h]
  have := (nums_seg (image_bytes l m)).1 0 84 rfl
  exact this.2
end Dec
end Go.Proofs.YtcijanmckhlpiaaDoor
namespace Go.Proofs.YtcijanmckhlpiaaDoor
open Go.RowKit Go.Proofs.YtcijanmckhlpiaaDoorW.PrintWords Go.Proofs.YtcijanmckhlpiaaDoorW.PrintLast Go.Proofs.YtcijanmckhlpiaaDoorW.PrintMore Go.Proofs.YtcijanmckhlpiaaDoor.PTableBack
set_option linter.unusedVariables false
set_option linter.unusedSimpArgs false
namespace Bld
set_option maxRecDepth 100000 in
set_option maxHeartbeats 4000000 in
theorem tableBack_any (A : Option Addr) (c : Nat) (rows : List (List S93)) (B : Option Addr) (d : Nat) (gos : List (List Int)) (cut x : Int) (w : World) (hA : (Kd.slice 93 k93).C w A rows.length rows) (hc : rows.length ≤ c) (hB : (Kd.slice 3 (Kd.int .i64)).C w B gos.length gos) (hd : gos.length ≤ d) (hbl : ∀ x ∈ rows, x.length ≤ 9223372036854775807) (hbm : ∀ x ∈ gos, x.length ≤ 9223372036854775807) (hT : Tab64 w) (het : Dec.ErrType w) :
    Calls Tryd.prog 6 #[.agg #[.slice A rows.length c, .slice B gos.length d], .int .i64 cut, .int .u8 x] w fun e w' => e = .returned (.bool true) ∧ Below w.heap.size w w' := by
  have hb0 := below_alloc (Below.refl w.heap.size w) (.cells #[.slice A rows.length c, .slice B gos.length d] 25)
  have HAW := Lib.hid (awake_any (w.alloc (.cells #[.slice A rows.length c, .slice B gos.length d] 25)) (hT.below hb0) (het.below hb0))
  have HET0 := Lib.hid (het.below hb0)
  have HX0 := Lib.hid (blk_new w (.cells #[.slice A rows.length c, .slice B gos.length d] 25))
  have HB0 := Lib.hid hb0
  have RA0 := Lib.hid (Kd.C_below hA hb0)
  have RB0 := Lib.hid (Kd.C_below hB hb0)
  obtain ⟨k1, hk1⟩ := (Enc.enc_ev rows gos hbl hbm).rounds
  have HK1 := Lib.hid hk1
  clear hT het hb0 hA hB hk1
  go_enter Tryd.func6, Tryd.ntmps6
  go_wp2_with (go_at_call 23; refine (HAW.out).mono ?_; rintro e1 w1 ⟨rfl, hb1⟩; refine Hid.out ?_)
  refine Lib.hid ?_
  have HB1 := Lib.hid (below_step HB0.out hb1)
  have HX1 := Lib.hid (blk_below HX0.out hb1)
  have HET1 := Lib.hid (HET0.out.below hb1)
  have RA1 := Lib.hid (Kd.C_below RA0.out hb1)
  have RB1 := Lib.hid (Kd.C_below RB0.out hb1)
  clear hb1 HB0 HX0 HET0 RA0 RB0 HAW
  generalize w.heap.size = tb at HX1
  have t0 := blk_cell HX1.out 0
  have t1 := blk_cell HX1.out 1
  simp at t0 t1
  cases hsh : Enc.shB rows gos with
  | false =>
    rw [Dec.encB_false hsh] at HK1
    have HPL := Lib.hid (Dec.plain_false hsh)
    clear hsh
    go_wp2_with (go_at_call 24; refine (table_Encode.calls k1 A c rows B d gos ⟨#[]⟩ w1 RA1.out hc RB1.out hd HK1.out).mono ?_; rintro e4 w4 ⟨rfl, hb4⟩; refine Hid.out ?_)
    refine Lib.hid ?_
    have HB4 := Lib.hid (below_step HB1.out hb4)
    have HX4 := Lib.hid (blk_below HX1.out hb4)
    have RA4 := Lib.hid (Kd.C_below RA1.out hb4)
    have RB4 := Lib.hid (Kd.C_below RB1.out hb4)
    clear hb4 HB1 HX1 RA1 RB1 HET1 t0 t1
    have t0 := blk_cell HX4.out 0
    have t1 := blk_cell HX4.out 1
    simp at t0 t1
    by_cases h1 : rows.length = gos.length
    · have q1 : ((rows.length : Int) != (gos.length : Int)) = false := by rw [h1]; simp
      by_cases h2 : rows.length = 0
      · have q2 : ((rows.length : Int) == 0) = true := by rw [h2]; rfl
        clear h1 h2
        go_wp2_with fail
        go_ret
        exact ⟨rfl, HB4.out⟩
      · have q2 : ((rows.length : Int) == 0) = false := by simp; exact fun e => h2 (by rw [e]; rfl)
        have HPF := Lib.hid (HPL.out h1 h2)
        clear h1 h2
        go_wp2_with (go_at_call 25; refine (trellislaw13_plain.calls A c rows B d gos false _ RA4.out hc RB4.out hd HPF.out).mono ?_; rintro e5 w5 ⟨rfl, hb5⟩; refine Hid.out ?_)
        refine Lib.hid ?_
        have HB5 := Lib.hid (below_step HB4.out hb5)
        clear hb5 t0 t1
        go_wp2_with fail
        go_ret
        exact ⟨rfl, HB5.out⟩
    · have q1 : ((rows.length : Int) != (gos.length : Int)) = true := by simp; omega
      clear h1
      go_wp2_with fail
      go_ret
      exact ⟨rfl, HB4.out⟩
  | true =>
    have hdec := Dec.dec_enc hsh
    have hsz := encB_size hsh
    have hhd := Dec.encB_head hsh
    obtain ⟨k3, hk3⟩ := (Dec.same_ev rows gos (by have := (Enc.shp_of hsh).l2; omega) (by have := (Enc.shp_of hsh).l2; have := (Enc.shp_of hsh).ml; omega) hbl hbm).rounds
    generalize Enc.encB rows gos = img at *
    have HDEC := Lib.hid hdec
    have HK3 := Lib.hid hk3
    have hs3 : 3 ≤ img.size := hsz.1
    have hs2 : img.size ≤ 2000000 := hsz.2
    clear hsh hdec hsz hk3
    go_wp2_with (go_at_call 24; refine (table_Encode.calls k1 A c rows B d gos img w1 RA1.out hc RB1.out hd HK1.out).mono ?_; rintro e4 w4 ⟨rfl, hb4⟩; refine Hid.out ?_)
    refine Lib.hid ?_
    have HB4 := Lib.hid (below_step HB1.out hb4)
    have HX4 := Lib.hid (blk_below HX1.out hb4)
    have HET4 := Lib.hid (HET1.out.below hb4)
    have RA4 := Lib.hid (Kd.C_below RA1.out hb4)
    have RB4 := Lib.hid (Kd.C_below RB1.out hb4)
    clear hb4 HB1 HX1 RA1 RB1 HET1 t0 t1
    have hdc := Dec.decode_any img w4 (by omega)
    rw [HDEC.out] at hdc
    have HDC := Lib.hid hdc
    clear hdc
    have hem : img.toList.isEmpty = false := by
      rw [ByteArray.toList_eq]
      cases hl : img.data.toList with
      | nil =>
        have h0 : img.data.toList.length = 0 := by rw [hl]; rfl
        have h1 : img.data.toList.length = img.size := Array.length_toList
        omega
      | cons _ _ => rfl
    go_wp2_with (go_at_call 9; refine (HDC.out).mono ?_; rintro e5 w5 ⟨hb5, vA, vG, rfl, hA5, hG5⟩; refine Hid.out ?_)
    refine Lib.hid ?_
    obtain ⟨A5, c5, rfl, a5, ca5⟩ := Kd.R_reads hA5
    obtain ⟨B5, d5, rfl, b5, cb5⟩ := Kd.R_reads hG5
    have hb6 := below_alloc (Below.refl w5.heap.size w5) (.cells #[.slice A5 rows.length c5, .slice B5 gos.length d5] 25)
    have HB6 := Lib.hid (below_step (below_step HB4.out hb5) hb6)
    have HX6 := Lib.hid (blk_below (blk_below HX4.out hb5) hb6)
    have HY6 := Lib.hid (blk_new w5 (.cells #[.slice A5 rows.length c5, .slice B5 gos.length d5] 25))
    have HET6 := Lib.hid ((HET4.out.below hb5).below hb6)
    have R16 := Lib.hid (Kd.C_below (Kd.C_below RA4.out hb5) hb6)
    have R36 := Lib.hid (Kd.C_below (Kd.C_below RB4.out hb5) hb6)
    have R56 := Lib.hid (Kd.C_below ca5 hb6)
    have R76 := Lib.hid (Kd.C_below cb5 hb6)
    clear hA5 hG5 hb5 hb6 HB4 HX4 RA4 RB4 ca5 cb5 HDC HET4
    go_wp2_with ((with_reducible refine gate_ (.load 25 (.tmp 3)) rfl ?_); refine Hid.out ?_)
    refine Lib.hid ?_
    generalize w5.alloc (.cells #[.slice A5 rows.length c5, .slice B5 gos.length d5] 25) = W6 at *
    generalize w5.heap.size = ub at *
    have t0 := blk_cell HX6.out 0
    have t1 := blk_cell HX6.out 1
    have u0 := blk_cell HY6.out 0
    have u1 := blk_cell HY6.out 1
    simp at t0 t1 u0 u1
    go_wp2_with (go_at_call 12; refine (trellislaw13_same.calls k3 A c rows B d gos A5 c5 rows B5 d5 gos true W6 R16.out hc R36.out hd R56.out a5 R76.out b5 HK3.out).mono ?_; rintro e8 w8 ⟨rfl, hb8⟩; refine Hid.out ?_)
    refine Lib.hid ?_
    have HB8 := Lib.hid (below_step HB6.out hb8)
    have HET8 := Lib.hid (HET6.out.below hb8)
    clear hb8 HB6 HET6 t0 t1 u0 u1 HX6 HY6 R16 R36 R56 R76
    have hix : ∀ h : 0 < img.size, ((((img[0]'h).toNat : Nat) : Int) == 0) = false := fun h => by
      have h1 := bt_at img 0 h
      rw [hhd] at h1
      have h2 : (((img[0]'h).toNat : Nat) : Int) = 84 := h1
      rw [h2]
      rfl
    have h0s : 0 < img.size := by omega
    have hcv : (convert 70 9 (.slice (some ⟨w8.heap.size, 0, none⟩) 1 1)).run Tryd.prog (w8.alloc (.cells #[.int .u8 x] 5)) = .ok (.string (strOfNums [x])) (w8.alloc (.cells #[.int .u8 x] 5)) :=
      Kd.C_string (xs := [x]) Tryd.underlying70 Tryd.underlying5 Tryd.underlying9 (C_lit1 (k := Kd.int .u8) (x := x) (cs := [.int .u8 x]) rfl (blk_new w8 (.cells #[.int .u8 x] 5)))
    have hx1 : (strOfNums [x]).size = 1 := rfl
    generalize strOfNums [x] = tx at *
    have hadd : Op.stringOp .add img tx = pure (.string (img ++ tx)) := by
      unfold Op.stringOp
      rw [if_neg]
      rw [hx1]
      show ¬ (((img.size + 1 : Nat) : Int) > 9223372036854775807)
      omega
    have hz2 : (img ++ tx).size = img.size + 1 := by rw [ByteArray.size_append, hx1]
    have hdec2 := Dec.dec_longer (Dec.pre_append img tx) (by omega) HDEC.out
    have HB9 := Lib.hid (below_alloc HB8.out (.cells #[.int .u8 x] 5))
    have HET9 := Lib.hid (HET8.out.below (below_alloc (Below.refl _ w8) (.cells #[.int .u8 x] 5)))
    have hdc := Dec.decode_any (img ++ tx) (w8.alloc (.cells #[.int .u8 x] 5)) (by omega)
    rw [hdec2] at hdc
    have HDC := Lib.hid hdc
    generalize img ++ tx = im2 at *
    clear hdc hdec2 hx1 hz2 HB8 HET8
    go_wp2_with (go_at_call 9; refine (HDC.out).mono ?_; rintro ea wa ⟨hba, ev, rfl, b, hbb, rfl, hbk⟩; refine Hid.out ?_)
    refine Lib.hid ?_
    have hbc := below_alloc (Below.refl wa.heap.size wa) (.cells #[.slice none 0 0, .slice none 0 0] 25)
    have HBA := Lib.hid (below_step (below_step HB9.out hba) hbc)
    have HETA := Lib.hid ((HET9.out.below hba).below hbc)
    have HBK := Lib.hid (blk_below hbk hbc)
    clear hba hbc hbk hbb HDC HB9 HET9 hcv hadd hix
    go_wp2_with (go_at_call 11; refine (Dec.told_bad b 131 (img.size : Int) _ HETA.out HBK.out).mono ?_; rintro eb wb ⟨rfl, hbb⟩; refine Hid.out ?_)
    refine Lib.hid ?_
    have HBB := Lib.hid (below_step HBA.out hbb)
    have HETB := Lib.hid (HETA.out.below hbb)
    clear hbb HBA HETA HBK
    by_cases hc0 : cut < 0
    · have q1 : decide (cut < 0) = true := decide_eq_true hc0
      clear hc0
      go_wp2_with fail
      go_ret
      exact ⟨rfl, HBB.out⟩
    · have q1 : decide (cut < 0) = false := decide_eq_false hc0
      by_cases hc1 : cut ≥ (img.size : Int)
      · have q2 : decide (cut ≥ (img.size : Int)) = true := decide_eq_true hc1
        clear hc1
        go_wp2_with fail
        go_ret
        exact ⟨rfl, HBB.out⟩
      · have q2 : decide (cut ≥ (img.size : Int)) = false := decide_eq_false hc1
        obtain ⟨cn, rfl⟩ := Int.eq_ofNat_of_zero_le (show 0 ≤ cut by omega)
        have hcn : cn < img.size := by omega
        have k0 : (0 : Int) ≤ (cn : Int) := Int.natCast_nonneg _
        have k1 : (cn : Int) ≤ (img.size : Int) := by omega
        have hz3 : (img.extract 0 cn).size = cn := by rw [ByteArray.size_extract]; omega
        obtain ⟨p, hdp, hpl⟩ := Dec.dec_shorter (Dec.pre_extract img cn (by omega)) (by omega) HDEC.out
        rw [hz3] at hpl
        have hdc := Dec.decode_any (img.extract 0 cn) wb (by omega)
        rw [hdp] at hdc
        have HDC := Lib.hid hdc
        have q3 : decide ((p : Int) ≤ (cn : Int)) = true := decide_eq_true (by omega)
        clear hdc hdp hz3
        go_wp2_with (go_at_call 9; refine (HDC.out).mono ?_; rintro ec wc ⟨hbc, ev, rfl, b', hbb, rfl, hbk⟩; refine Hid.out ?_)
        refine Lib.hid ?_
        have hbd := below_alloc (Below.refl wc.heap.size wc) (.cells #[.slice none 0 0, .slice none 0 0] 25)
        have HBD := Lib.hid (below_step (below_step HBB.out hbc) hbd)
        have HETD := Lib.hid ((HETB.out.below hbc).below hbd)
        have HBK := Lib.hid (blk_below hbk hbd)
        have HX := Lib.hid (blk_new wc (.cells #[.slice none 0 0, .slice none 0 0] 25))
        clear hbc hbd hbk hbb HDC HBB HETB
        go_wp2_with (go_at_call 11; refine (Dec.told_bad b' 131 (p : Int) _ HETD.out HBK.out).mono ?_; rintro ed wd ⟨rfl, hbe⟩; refine Hid.out ?_)
        refine Lib.hid ?_
        have HBE := Lib.hid (below_step HBD.out hbe)
        have HXE := Lib.hid (blk_below HX.out hbe)
        have x0 := blk_cell HXE.out 0
        simp at x0
        clear hbe HBD HETD HBK HX
        go_wp2_with fail
        go_ret
        exact ⟨rfl, HBE.out⟩
end Bld
end Go.Proofs.YtcijanmckhlpiaaDoor
namespace Go.Proofs.YtcijanmckhlpiaaDoorW.PrintWords
open Go.RowKit
set_option linter.unusedVariables false
set_option linter.unusedSimpArgs false
def Opens {α : Type} (P : Program) (t : TypeId) (d : Kd α) (G : α → Prop) : Prop :=
  ∀ {H : Type} (enc : TypeId × Value → H) (W : World) (base : Nat) (spare : Nat → Bool) (held : Bool) (fuel : Nat) (cs : List Value) (x : DataW H × List MemPlace),
    DataW.trod enc P W base spare held fuel t cs = some x → (∀ n ∈ x.1.weights P t, n ≤ reachBytes) → ∃ y, d.K W y cs ∧ G y
theorem opens_int {P : Program} {t : TypeId} {k : IntKind} (ht : P.underlying t = some (.int k)) : Opens P t (Kd.int k) (fun n => (Lit.int k n).wf = true) := by
  intro H enc W base spare held fuel cs x h _
  obtain ⟨n, rfl, _, hw⟩ := DataW.trod_int ht h
  exact ⟨n, rfl, hw⟩
theorem list_of {β : Type} {n : Nat} {p : Nat → β → Prop} (h : ∀ i, i < n → ∃ y, p i y) : ∃ ys : List β, ys.length = n ∧ ∀ i y, ys[i]? = some y → p i y := by
  induction n with
  | zero => exact ⟨[], rfl, fun i y hi => by simp at hi⟩
  | succ n ih =>
    obtain ⟨ys, h1, h2⟩ := ih (fun i hi => h i (by omega))
    obtain ⟨y, hy⟩ := h n (by omega)
    refine ⟨ys ++ [y], by simp [h1], fun i z hi => ?_⟩
    rcases Nat.lt_or_ge i n with hlt | hge
    · rw [List.getElem?_append_left (by omega)] at hi
      exact h2 i z hi
    · rw [List.getElem?_append_right (by omega)] at hi
      rcases Nat.eq_or_lt_of_le hge with he | he
      · subst he
        rw [h1, Nat.sub_self] at hi
        injection hi with hi
        exact hi ▸ hy
      · rw [List.getElem?_eq_none (by simp; omega)] at hi; cases hi
theorem opens_slice {α : Type} {P : Program} {t e : TypeId} {d : Kd α} {G : α → Prop} {B : Nat} (ht : P.underlying t = some (.slice e)) (hc : P.cellsOf e = d.sz) (hB : P.bytesOf e = B) (ho : Opens P e d G) :
    Opens P t (Kd.slice e d) (fun ys => ys.length * B ≤ 140737488351232 ∧ ∀ y ∈ ys, G y) := by
  intro H enc W base spare held fuel cs x h hw
  rcases Go.Deep.open_slice ht h with ⟨rfl, rfl⟩ | ⟨a, len, cap, m, n, D, Pl, rfl, hb, hl, hm, hmm, rfl, hx⟩
  · exact ⟨[], ⟨none, 0, rfl, Nat.zero_le _, Kd.C_nil d W⟩, by simp, fun y hy => by cases hy⟩
  · have hlm : len ≤ m := by rw [hmm]; split <;> omega
    simp only [DataW.weights, ht, List.mem_cons, List.mem_append, List.length_map, List.length_range] at hw
    have hwe : ∀ i, i < len → ∀ k ∈ (D i).weights P e, k ≤ reachBytes := by
      intro i hi k hk
      refine hw k (.inr (.inl ?_))
      have : ∀ (l : List (DataW H)), D i ∈ l → k ∈ DataW.weightsAll P e l := by
        intro l
        induction l with
        | nil => intro h; cases h
        | cons q r ih =>
          intro h
          simp only [DataW.weightsAll, List.mem_append]
          rcases List.mem_cons.1 h with h | h
          · exact .inl (h ▸ hk)
          · exact .inr (ih h)
      exact this _ (List.mem_map.2 ⟨i, List.mem_range.2 hi, rfl⟩)
    have hel : ∀ i, i < len → ∃ y : List Value × α, W.cells? base (a.add (i * P.cellsOf e)) (P.cellsOf e) = some y.1 ∧ d.K W y.2 y.1 ∧ G y.2 := by
      intro i hi
      obtain ⟨cs', h1, h2⟩ := hx i (by omega)
      obtain ⟨y, h3, h4⟩ := ho enc W base spare held n cs' _ h2 (hwe i hi)
      exact ⟨(cs', y), h1, h3, h4⟩
    obtain ⟨ys, hys, hf⟩ := list_of hel
    refine ⟨ys.map (·.2), ⟨some a, cap, by rw [List.length_map, hys], by rw [List.length_map, hys]; exact hl, ?_⟩, ?_, ?_⟩
    · refine ⟨rfl, by rw [List.length_map, hys]; simp only [maxLen] at hm; omega, fun hp => ⟨a, rfl, fun j p hj => ?_⟩⟩
      rw [List.getElem?_map, Option.map_eq_some_iff] at hj
      obtain ⟨q, hq, rfl⟩ := hj
      obtain ⟨h1, h2, _⟩ := hf j q hq
      obtain ⟨_, h3, h4⟩ := World.cells?_some h1
      refine ⟨q.1, d.K_len h2, h2, fun i u hu => ?_⟩
      have hi : i < P.cellsOf e := by have := (List.getElem?_eq_some_iff.1 hu).1; omega
      rw [← hc, ← Go.Deep.add_add, h4 i hi]
      exact hu
    · rw [List.length_map, hys, ← hB]
      have := hw _ (.inl rfl)
      refine Nat.le_trans (Nat.mul_le_mul_right _ ?_) this
      omega
    · intro y hy
      obtain ⟨q, hq, rfl⟩ := List.mem_map.1 hy
      obtain ⟨j, hj⟩ := List.mem_iff_getElem?.1 hq
      exact (hf j q hj).2.2
def OpensFs {α : Type} (P : Program) (o : Nat) (fs : List Field) (d : Kd α) (G : α → Prop) : Prop :=
  ∀ {H : Type} (enc : TypeId × Value → H) (W : World) (base : Nat) (spare : Nat → Bool) (held : Bool) (fuel : Nat) (cs : List Value) (xs : List (DataW H × List MemPlace)), xs.length = fs.length →
    (∀ (i : Nat) (f : Field), fs[i]? = some f → DataW.trod enc P W base spare held fuel f.type ((cs.drop f.offset).take (P.cellsOf f.type)) = xs[i]?) → cs.length = o + d.sz →
    (∀ n ∈ DataW.weightsEach P (fs.map (·.type)) (xs.map (·.1)), n ≤ reachBytes) → ∃ y, d.K W y (cs.drop o) ∧ G y
theorem opensFs_last {α : Type} {P : Program} {o : Nat} {f : Field} {d : Kd α} {G : α → Prop} (hf : f.offset = o) (hc : P.cellsOf f.type = d.sz) (ho : Opens P f.type d G) : OpensFs P o [f] d G := by
  intro H enc W base spare held fuel cs xs hl hx hlen hw
  match xs, hl with
  | [x], _ =>
    have h := hx 0 f rfl
    rw [hf, hc, List.take_of_length_le (by rw [List.length_drop]; omega)] at h
    refine ho enc W base spare held fuel _ x h (fun n hn => hw n ?_)
    simp only [List.map_cons, List.map_nil, DataW.weightsEach, List.append_nil]
    exact hn
theorem opensFs_cons {α β : Type} {P : Program} {o : Nat} {f : Field} {fs : List Field} {d : Kd α} {d' : Kd β} {G : α → Prop} {G' : β → Prop} (hf : f.offset = o) (hc : P.cellsOf f.type = d.sz) (ho : Opens P f.type d G) (hs : OpensFs P (o + d.sz) fs d' G') :
    OpensFs P o (f :: fs) (Kd.pair d d') (fun y => G y.1 ∧ G' y.2) := by
  intro H enc W base spare held fuel cs xs hl hx hlen hw
  match xs, hl with
  | x :: xs, hl =>
    have h := hx 0 f rfl
    rw [hf, hc] at h
    have hlen' : cs.length = o + (d.sz + d'.sz) := hlen
    obtain ⟨y, hy, hg⟩ := ho enc W base spare held fuel _ x h (fun n hn => hw n (by
      simp only [List.map_cons, DataW.weightsEach, List.mem_append]; exact .inl hn))
    obtain ⟨y', hy', hg'⟩ := hs enc W base spare held fuel cs xs (by simpa using hl) (fun i g hi => hx (i + 1) g hi) (by omega) (fun n hn => hw n (by
      simp only [List.map_cons, DataW.weightsEach, List.mem_append]; exact .inr hn))
    refine ⟨(y, y'), ⟨_, _, ?_, hy, hy'⟩, hg, hg'⟩
    rw [← List.drop_drop, List.take_append_drop]
theorem opens_struct {α β : Type} {P : Program} {t : TypeId} {fs : Array Field} {d : Kd α} {G : α → Prop} (f : β → α) (g : α → β) (hfg : ∀ a, f (g a) = a) (ht : P.underlying t = some (.struct fs)) (hc : P.cellsOf t = d.sz) (hs : OpensFs P 0 fs.toList d G) :
    Opens P t (Kd.iso d f) (fun y => G (f y)) := by
  intro H enc W base spare held fuel cs x h hw
  obtain ⟨xs, n, _, rfl, hl, hlen, hx⟩ := DataW.trod_struct ht h
  simp only [DataW.weights, ht] at hw
  obtain ⟨y, hy, hg⟩ := hs enc W base spare held n cs xs (by simpa using hlen) (fun i f hi => hx i f (by simpa using hi)) (by omega) hw
  refine ⟨g y, ?_, ?_⟩
  · show d.K W (f (g y)) cs
    rw [hfg]; exact hy
  · show G (f (g y))
    rw [hfg]; exact hg
theorem Opens.imp {α : Type} {P : Program} {t : TypeId} {d : Kd α} {G G' : α → Prop} (h : Opens P t d G) (hG : ∀ y, G y → G' y) : Opens P t d G' := by
  intro H enc W base spare held fuel cs x hx hw
  obtain ⟨y, h1, h2⟩ := h enc W base spare held fuel cs x hx hw
  exact ⟨y, h1, hG y h2⟩
theorem Opens.arg {α : Type} {P : Program} {t : TypeId} {d : Kd α} {G : α → Prop} (h : Opens P t d G) {H : Type} {enc : TypeId × Value → H} {W : World} {base : Nat} {spare : Nat → Bool} {held : Bool} {v : Value} {x : DataW H} {ps : List MemPlace} {ts : List TypeId} {ds : List (DataW H)} {j : Nat}
    (hsz : (DataW.weightsEach P ts ds).all (· ≤ reachBytes) = true) (ht : ts[j]? = some t) (hd : ds[j]? = some x) (hx : DataW.Trod enc P W base spare held t v x ps) : ∃ y, d.K W y v.cells.toList ∧ G y := by
  obtain ⟨fuel, hf⟩ := hx
  refine h enc W base spare held fuel _ _ hf (fun n hn => ?_)
  have := List.all_eq_true.1 hsz n (DataW.weights_mem_each ht hd n hn)
  simpa using this
end Go.Proofs.YtcijanmckhlpiaaDoorW.PrintWords
namespace Go.Proofs.YtcijanmckhlpiaaDoor
open Go.RowKit Go.Proofs.YtcijanmckhlpiaaDoorW.PrintWords Go.Proofs.YtcijanmckhlpiaaDoor.PTableBack
def GTab (y : List (List S93) × List (List Int)) : Prop := (y.1.length * 24 ≤ 140737488351232 ∧ ∀ x ∈ y.1, x.length * 16 ≤ 140737488351232) ∧ (y.2.length * 24 ≤ 140737488351232 ∧ ∀ x ∈ y.2, x.length * 8 ≤ 140737488351232)
theorem opens93 : Opens Tryd.prog 93 k93 (fun _ => True) :=
  Opens.imp (opens_struct (fun x : S93 => (x.f0, x.f1)) (fun y => ⟨y.1, y.2⟩) (fun _ => rfl) Tryd.underlying93 (by kernel_rfl)
    (opensFs_cons rfl (by kernel_rfl) (opens_int Tryd.underlying91) (opensFs_last rfl (by kernel_rfl) (opens_int Tryd.underlying3)))) (fun _ _ => trivial)
theorem opensTable : Opens Tryd.prog 25 (Kd.iso (Kd.pair (Kd.slice 90 (Kd.slice 93 k93)) (Kd.slice 95 (Kd.slice 3 (Kd.int .i64)))) (fun y : List (List S93) × List (List Int) => y)) GTab :=
  Opens.imp (opens_struct (fun y => y) (fun y => y) (fun _ => rfl) Tryd.underlying25 (by kernel_rfl)
    (opensFs_cons rfl (by kernel_rfl) (opens_slice Tryd.underlying22 (by kernel_rfl) (B := 24) (by kernel_rfl) (opens_slice Tryd.underlying90 (by kernel_rfl) (B := 16) (by kernel_rfl) opens93))
      (opensFs_last rfl (by kernel_rfl) (opens_slice Tryd.underlying23 (by kernel_rfl) (B := 24) (by kernel_rfl) (opens_slice Tryd.underlying95 (by kernel_rfl) (B := 8) (by kernel_rfl) (opens_int Tryd.underlying3))))))
    (fun y h => ⟨⟨h.1.1, fun x hx => (h.1.2 x hx).1⟩, ⟨h.2.1, fun x hx => (h.2.2 x hx).1⟩⟩)
end Go.Proofs.YtcijanmckhlpiaaDoor
