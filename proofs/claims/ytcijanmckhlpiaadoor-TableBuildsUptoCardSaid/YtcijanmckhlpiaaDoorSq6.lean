-- Texts of this seat, cut to what is used and merged (by shake.py).
import Derived.Test.YtcijanmckhlpiaaDoorSq1
import Derived.Test.YtcijanmckhlpiaaDoorSq4
import Derived.Test.YtcijanmckhlpiaaDoorSq5
set_option linter.unusedVariables false
set_option linter.unusedSimpArgs false
namespace Go.Proofs.YtcijanmckhlpiaaDoor
open Go.RowKit Go.Proofs.YtcijanmckhlpiaaDoorW.PrintWords Go.Proofs.YtcijanmckhlpiaaDoorW.PrintLast Go.Proofs.YtcijanmckhlpiaaDoorW.PrintMore Go.Proofs.YtcijanmckhlpiaaDoor.PTableBuilds
namespace Bld
def kN : Kd Nat := Kd.scalar (fun n : Nat => .int .i64 (n : Int)) (fun _ => rfl)
def kU : Kd Nat := Kd.scalar (fun n : Nat => .int .u64 (n : Int)) (fun _ => rfl)
abbrev tru : Nat → Prop := fun _ => True
def RetR {α : Type} (k : Kd α) (t : Nat) (xs : List α) (w : World) (e : Ending) (w' : World) : Prop := ∃ v, e = .returned v ∧ k.R t w' w.heap.size tru v xs ∧ Below w.heap.size w w'
structure GR (w : World) (A : Option Addr) (c : Nat) (l : List S112) (B : Option Addr) (d : Nat) (m : List S115) (C : Option Addr) (e : Nat) (ps : List S77) : Prop where
 hA : k112.C w A l.length l
 cA : l.length ≤ c
 hB : k115.C w B m.length m
 cB : m.length ≤ d
 hC : k77.C w C ps.length ps
 cC : ps.length ≤ e
theorem GR.below {w w1 : World} {A : Option Addr} {c : Nat} {l : List S112} {B : Option Addr} {d : Nat} {m : List S115} {C : Option Addr} {e : Nat} {ps : List S77} (h : GR w A c l B d m C e ps) (hb : Below w.heap.size w w1) : GR w1 A c l B d m C e ps :=
 ⟨Kd.zav h.hA hb, h.cA, Kd.zav h.hB hb, h.cB, Kd.zav h.hC hb, h.cC⟩
def dots (ps : List S77) : Nat := (ps.map (fun p => p.f1.length + 1)).sum
theorem dots_mem : ∀ {ps : List S77} {p : S77}, p ∈ ps → p.f1.length + 1 ≤ dots ps
 | q :: ps, p, h => by
  simp only [dots, List.map_cons, List.sum_cons]; rcases List.mem_cons.1 h with rfl | h
  ·omega
  ·have := dots_mem h; simp only [dots] at this; omega
theorem dots_len : ∀ (ps : List S77), ps.length ≤ dots ps
 | [] => Nat.zero_le _
 | p :: ps => by
  have := dots_len ps; simp only [dots, List.map_cons, List.sum_cons, List.length_cons] at this ⊢; omega
structure Fair (T M : Nat) (ps : List S77) : Prop where
 t1 : 1 ≤ T
 t64 : T ≤ 64
 m128 : M ≤ 128
 tot : dots ps ≤ 1048576
 lhs : ∀ p ∈ ps, -1 ≤ p.f0 ∧ p.f0 < M
 rhs : ∀ p ∈ ps, ∀ r ∈ p.f1, 0 ≤ r.f0 ∧ r.f0 < T + M
theorem Fair.len {T M : Nat} {ps : List S77} (h : Fair T M ps) : ps.length ≤ 1048576 := Nat.le_trans (dots_len ps) h.tot
theorem Fair.row {T M : Nat} {ps : List S77} (h : Fair T M ps) {p : S77} (hp : p ∈ ps) : p.f1.length < 1048576 := by
 have := dots_mem hp; have := h.tot; omega
theorem rd110_mem {l : List S110} {i : Nat} (hi : i < l.length) : zax l (i : Int) ∈ l := rd_T110_mem hi
theorem rd77_mem {l : List S77} {i : Nat} (hi : i < l.length) : zal l (i : Int) ∈ l := by
 have e : zal l (i : Int) = l[i] := by unfold zal; rw [Int.toNat_natCast, List.getD_eq_getElem?_getD, List.getElem?_eq_getElem hi]; rfl
 rw [e]; exact List.getElem_mem _
theorem symbols_true {l : List S112} {m : List S115} {ps : List S77} {row : List S110} (hT : l.length ≤ 64) (hM : m.length ≤ 128) (hn : row.length < 1048576) (hr : ∀ r ∈ row, 0 ≤ r.f0 ∧ r.f0 < l.length + m.length) (d : Nat) : ∀ (k i : Nat), i + d = row.length → d < k → first_symbols.l0 k row (row.length : Int) (i : Int) l m ps = some true := by
 induction d with
 | zero =>
  intro k i hi hk; obtain ⟨k, rfl⟩ : ∃ q, k = q + 1 := ⟨k - 1, by omega⟩
  simp only [first_symbols.l0]; rw [if_neg (by omega)]
 | succ d ih =>
  intro k i hi hk; obtain ⟨k, rfl⟩ : ∃ q, k = q + 1 := ⟨k - 1, by omega⟩
  have hx := hr _ (rd110_mem (l := row) (i := i) (by omega))
  have hw : wrap64 ((l.length : Int) + (m.length : Int)) = (l.length : Int) + (m.length : Int) := by unfold wrap64; omega
  have hv : wrap64 ((i : Int) + 1) = ((i + 1 : Nat) : Int) := by unfold wrap64; omega
  simp only [first_symbols.l0]; rw [if_pos (by omega), if_pos (by omega), if_pos (by omega), if_neg (by omega), hw, if_neg (by omega), hv]
  exact ih k (i + 1) (by omega) (by omega)
theorem sound_true {l : List S112} {m : List S115} {ps : List S77} (hf : Fair l.length m.length ps) : first_sound.f 5000000 l m ps = some true := by
 have key : ∀ (d : Nat) (k i : Nat), i + d = ps.length → d + 1048576 < k → first_sound.l0 k ps (ps.length : Int) (i : Int) l m ps = some true := by
  intro d
  induction d with
  | zero =>
   intro k i hi hk; obtain ⟨k, rfl⟩ : ∃ q, k = q + 1 := ⟨k - 1, by omega⟩
   simp only [first_sound.l0]; rw [if_neg (by omega)]
  | succ d ih =>
   intro k i hi hk; obtain ⟨k, rfl⟩ : ∃ q, k = q + 1 := ⟨k - 1, by omega⟩
   have hm := rd77_mem (l := ps) (i := i) (by omega)
   have hx := hf.lhs _ hm; have hlen := hf.len; have hv : wrap64 ((i : Int) + 1) = ((i + 1 : Nat) : Int) := by unfold wrap64; omega
   have hrow := hf.row hm; have hs : first_symbols.f k l m ps (zal ps (i : Int)).f1 = some true := symbols_true hf.t64 hf.m128 hrow (hf.rhs _ hm) (zal ps (i : Int)).f1.length k 0 (by omega) (by omega)
   simp only [first_sound.l0]; rw [if_pos (by omega), if_pos (by omega), if_pos (by omega), if_neg (by omega), if_neg (by omega), hs, hv]
   simp only [Option.bind_some, if_true]; exact ih k (i + 1) (by omega) (by omega)
 have h1 := hf.t1; have h2 := hf.t64; have h3 := hf.m128; have h4 := hf.len; unfold first_sound.f; rw [if_neg (by omega), if_neg (by omega), show (5000000 : Nat) = 4999999 + 1 from rfl]
 simp only [first_sound.j0]; rw [if_neg (by simp; omega)]
 exact key ps.length 4999999 0 (by omega) (by omega)
theorem C_cells {α : Type} {enc : α → Value} {h1 : ∀ x, (enc x).oneCell' = true} {w : World} {b o : Nat} (xs : List α) (hx : xs.length ≤ 9223372036854775807) (h : ∀ j (hj : j < xs.length), w.cell? ⟨b, o + j, none⟩ = some (enc xs[j])) : (Kd.scalar enc h1).C w (some ⟨b, o, none⟩) xs.length xs := by
 refine ⟨rfl, hx, fun _ => ⟨_, rfl, fun j p hj => ⟨[enc p], rfl, rfl, fun i u hu => ?_⟩⟩⟩
 obtain ⟨hl, hp⟩ := List.getElem?_eq_some_iff.1 hj; cases i with
 | zero =>
  have e : enc p = u := by simpa using hu
  subst e; rw [← hp, ← h j hl, Addr.add_mid]; simp [Kd.scalar]
 | succ i => simp at hu
theorem C_van {w : World} {b : Nat} {F : List Nat} {V : List Bool} {t : TypeId} (hF : F.length = 192) (h : w.heap[b]? = some (Obj.cells (setsC F V) t (0, 0))) (n : Nat) (hV : V.length = 192) : Kd.bool.C w (some ⟨b, 192, none⟩) (V.take n).length (V.take n) :=
 C_cells (V.take n) (by rw [List.length_take]; omega) (fun j hj => by
  rw [List.length_take] at hj; rw [zaa h, setsC_van hF hV (by omega), List.getElem_take]
  unfold van; rw [List.getD_eq_getElem?_getD, List.getElem?_eq_getElem (by omega)]
  rfl)
theorem C_fst {w : World} {b : Nat} {F : List Nat} {V : List Bool} {t : TypeId} (hF : F.length = 192) (h : w.heap[b]? = some (Obj.cells (setsC F V) t (0, 0))) (n : Nat) : kU.C w (some ⟨b, 0, none⟩) (F.take n).length (F.take n) :=
 C_cells (F.take n) (by rw [List.length_take]; omega) (fun j hj => by
  rw [List.length_take] at hj; rw [Nat.zero_add, zaa h, setsC_first hF (by omega), List.getElem_take]
  unfold fst; rw [List.getD_eq_getElem?_getD, List.getElem?_eq_getElem (by omega)]
  rfl)
theorem slice_of {t : TypeId} (ht : Tryd.prog.underlying t = some (.array (Tryd.prog.arrayLen t) (Tryd.prog.elem t))) (hn : Tryd.prog.arrayLen t = 192) {i : TypeInfo} (hi : Tryd.prog.info? (Tryd.prog.elem t) = some i) (w : World) (b o q : Nat) (hq : q ≤ 192) : (Instr.sliceAt t (.pointer (some ⟨b, o, none⟩)) none (some (.int .i64 (q : Int))) none).run Tryd.prog w = .ok (.slice (some ⟨b, o, none⟩) q 192) w := by
 rw [run_sliceAt_array_h (P := Tryd.prog) w t ⟨b, o, none⟩ ht .i64 (q : Int) (by omega) (by rw [hn]; omega), run_sizeOf w hi]
 simp only [Result.andThen_ok, slicedAt, hn, Int.toNat_natCast, Nat.sub_zero, Nat.zero_mul, Addr.add_mid, Nat.add_zero]; simp
set_option maxRecDepth 100000 in
theorem slice252 (w : World) (b o q : Nat) (hq : q ≤ 192) : (Instr.sliceAt 252 (.pointer (some ⟨b, o, none⟩)) none (some (.int .i64 (q : Int))) none).run Tryd.prog w = .ok (.slice (some ⟨b, o, none⟩) q 192) w := slice_of Tryd.underlying252 (by kernel_rfl) (i := (Tryd.prog.info? 4).get (by kernel_rfl)) (by kernel_rfl) w b o q hq
set_option maxRecDepth 100000 in
theorem slice251 (w : World) (b o q : Nat) (hq : q ≤ 192) : (Instr.sliceAt 251 (.pointer (some ⟨b, o, none⟩)) none (some (.int .i64 (q : Int))) none).run Tryd.prog w = .ok (.slice (some ⟨b, o, none⟩) q 192) w := slice_of Tryd.underlying251 (by kernel_rfl) (i := (Tryd.prog.info? 128).get (by kernel_rfl)) (by kernel_rfl) w b o q hq
theorem info226e : (Tryd.prog.info? 4).map (fun i => (i.zero, i.size, i.bytes)) = some (some (.bool false), 1, 1) := info4
set_option maxRecDepth 100000 in
set_option maxHeartbeats 4000000 in
theorem nullable_any (A : Option Addr) (c : Nat) (l : List S112) (B : Option Addr) (d : Nat) (m : List S115) (C : Option Addr) (e : Nat) (ps : List S77) (w : World)
  (hg : GR w A c l B d m C e ps) (hf : Fair l.length m.length ps) (k : Nat) (s : FV) (hk : solveN l.length ps k (initF l.length, noV) = some s) (hfit : Fit s) :
  Calls Tryd.prog 96 #[.agg #[.slice A l.length c, .slice B m.length d, .slice C ps.length e]] w (RetR Kd.bool 4 (s.2.take (l.length + m.length)) w) := by
 have HG := Lib.hid hg; have HF := Lib.hid hf; have HK := Lib.hid hk; have HFT := Lib.hid hfit; have t1 := hf.t1; have t64 := hf.t64; have m128 := hf.m128; have hbA := zac (Below.refl w.heap.size w) (.cells #[.slice A l.length c, .slice B m.length d, .slice C ps.length e] 51); have HG1 := Lib.hid (hg.below hbA); have HSY : Hid (∀ p ∈ ps, p.f0 < m.length ∧ p.f1.length ≤ 1048576 ∧ ∀ r ∈ p.f1, 0 ≤ r.f0 ∧ r.f0 < 192) := Lib.hid (fun p hp => ⟨(hf.lhs p hp).2, by have := hf.row hp; omega, fun r hr => ⟨(hf.rhs p hp r hr).1, by have := (hf.rhs p hp r hr).2; omega⟩⟩)
 have HX0 := Lib.hid (zau w (.cells #[.slice A l.length c, .slice B m.length d, .slice C ps.length e] 51)); have HBA := Lib.hid hbA; clear hg hf hk hfit hbA
 go_enter Tryd.func96, Tryd.ntmps96
 go_wp2_with (go_at_call 118; refine (first_sound.calls 5000000 A c l B d m C e ps true _ HG1.out.hA HG1.out.cA HG1.out.hB HG1.out.cB HG1.out.hC HG1.out.cC (sound_true HF.out)).mono ?_; rintro e1 w1 ⟨rfl, hb1⟩; refine Hid.out ?_)
 refine Lib.hid ?_; have HX1 := Lib.hid (zak HX0.out hb1); have HB1 := Lib.hid (zam HBA.out hb1); have HG2 := Lib.hid (HG1.out.below hb1); clear HX0 HBA HG1 hb1; have hg0 := zaa HX1.out 0; have hg1 := zaa HX1.out 1; have hg2 := zaa HX1.out 2; simp at hg0 hg1 hg2; have hz := HF.out.len
 go_wp2_with (go_at_call 119; refine (solve_any A c l B d m C e ps _ HG2.out.hA HG2.out.hB HG2.out.hC t64 m128 hz HSY.out k s HK.out).mono ?_; rintro e2 w2 ⟨rfl, hb2⟩; refine Hid.out ?_)
 refine Lib.hid ?_; clear hg0 hg1 hg2; have HX2 := Lib.hid (zak HX1.out hb2); have HB2 := Lib.hid (zam HB1.out hb2); clear HX1 HB1 HG2 hb2; have hlen := setsL_len HFT.out.len HFT.out.lenV
 go_wp2_with fail
 have hnew := zau w2 (.cells Tryd.zeroCells254 254); have hsz : Tryd.zeroCells254.size = (setsL s.1 s.2).length := by rw [zero254, hlen]; decide
 rw [run_storeAll hnew hsz setsL_one]; have HN := Lib.hid (blk_storeAll hnew hsz); have HX3 := Lib.hid (far_storeAll (cs := setsL s.1 s.2) (zad HX2.out (.cells Tryd.zeroCells254 254)) (Nat.ne_of_lt (zba HX2.out))); have HB3 := Lib.hid (below_storeAll (zac HB2.out (.cells Tryd.zeroCells254 254)) HB2.out.size (setsL s.1 s.2)); have hnb : w.heap.size < w2.heap.size := zba HX2.out; clear hnew hsz hlen HX2 HB2; generalize hgb : w2.heap.size = nb at *; generalize (w2.alloc (.cells Tryd.zeroCells254 254)).setCells nb 0 (setsL s.1 s.2) = W3 at *; have hg0 := zaa HX3.out 0; have hg1 := zaa HX3.out 1; simp at hg0 hg1; have hlm : IntKind.i64.wrap ((l.length : Int) + (m.length : Int)) = ((l.length + m.length : Nat) : Int) := by rw [IntWalk.i64_in _ (by omega)]; omega
 obtain ⟨q, hq⟩ : ∃ q, q = l.length + m.length := ⟨_, rfl⟩; have hq2 : q ≤ 192 := by omega
 rw [← hq] at hlm ⊢; have HQ := Lib.hid hq; clear hq; have hql : (s.2.take q).length = q := by rw [List.length_take]; have := HFT.out.lenV; omega
 have HC : Hid (Kd.bool.C W3 (some ⟨nb, 192, none⟩) q (s.2.take q)) := Lib.hid (by have h := C_van HFT.out.len HN.out q HFT.out.lenV; rw [hql] at h; exact h)
 have HQL := Lib.hid hql; have hsli := slice252 W3 nb 192 q hq2; clear hql; have hsl : (0 + q) * 1 ≤ 140737488355328 := by omega
 go_wp2_with ((with_reducible refine zay (b := .append) (xs := #[.const (.slice none 0 0), .tmp 17]) rfl ?_); at_builtin; refine Kd.zbj Kd.bool (w0 := w) w.heap.size rfl (.const (.slice none 0 0)) (.tmp 17) 226 4 (.bool false) 1 rfl Tryd.underlying226 info226e rfl (by decide) (by decide) (.slice none 0 0) [] (s.2.take q) _ _ _ tru (fun _ => False) rfl rfl (Kd.R_nil _ _ _ _ _) HC.out (fun _ _ h => h) (fun _ h => h.elim) (fun _ _ => trivial) HB3.out HB3.out.size hsl ?_; intro v4 w4 ho4 hb4 hg4 hat4; have HO4 := Lib.hid ho4; have HB4 := Lib.hid hb4; clear ho4 hb4 hg4 hat4)
 clear hsli
 go_wp2_with fail
 go_ret; exact ⟨v4, rfl, by rw [← HQ.out]; exact HO4.out, HB4.out⟩
set_option maxRecDepth 100000 in
set_option maxHeartbeats 4000000 in
theorem first_any (A : Option Addr) (c : Nat) (l : List S112) (B : Option Addr) (d : Nat) (m : List S115) (C : Option Addr) (e : Nat) (ps : List S77) (w : World)
  (hg : GR w A c l B d m C e ps) (hf : Fair l.length m.length ps) (k : Nat) (s : FV) (hk : solveN l.length ps k (initF l.length, noV) = some s) (hfit : Fit s) :
  Calls Tryd.prog 97 #[.agg #[.slice A l.length c, .slice B m.length d, .slice C ps.length e]] w (RetR kU 128 (s.1.take (l.length + m.length)) w) := by
 have HG := Lib.hid hg; have HF := Lib.hid hf; have HK := Lib.hid hk; have HFT := Lib.hid hfit; have t1 := hf.t1; have t64 := hf.t64; have m128 := hf.m128; have hbA := zac (Below.refl w.heap.size w) (.cells #[.slice A l.length c, .slice B m.length d, .slice C ps.length e] 51); have HG1 := Lib.hid (hg.below hbA); have HSY : Hid (∀ p ∈ ps, p.f0 < m.length ∧ p.f1.length ≤ 1048576 ∧ ∀ r ∈ p.f1, 0 ≤ r.f0 ∧ r.f0 < 192) := Lib.hid (fun p hp => ⟨(hf.lhs p hp).2, by have := hf.row hp; omega, fun r hr => ⟨(hf.rhs p hp r hr).1, by have := (hf.rhs p hp r hr).2; omega⟩⟩)
 have HX0 := Lib.hid (zau w (.cells #[.slice A l.length c, .slice B m.length d, .slice C ps.length e] 51)); have HBA := Lib.hid hbA; clear hg hf hk hfit hbA
 go_enter Tryd.func97, Tryd.ntmps97
 go_wp2_with (go_at_call 118; refine (first_sound.calls 5000000 A c l B d m C e ps true _ HG1.out.hA HG1.out.cA HG1.out.hB HG1.out.cB HG1.out.hC HG1.out.cC (sound_true HF.out)).mono ?_; rintro e1 w1 ⟨rfl, hb1⟩; refine Hid.out ?_)
 refine Lib.hid ?_; have HX1 := Lib.hid (zak HX0.out hb1); have HB1 := Lib.hid (zam HBA.out hb1); have HG2 := Lib.hid (HG1.out.below hb1); clear HX0 HBA HG1 hb1; have hg0 := zaa HX1.out 0; have hg1 := zaa HX1.out 1; have hg2 := zaa HX1.out 2; simp at hg0 hg1 hg2; have hz := HF.out.len
 go_wp2_with (go_at_call 119; refine (solve_any A c l B d m C e ps _ HG2.out.hA HG2.out.hB HG2.out.hC t64 m128 hz HSY.out k s HK.out).mono ?_; rintro e2 w2 ⟨rfl, hb2⟩; refine Hid.out ?_)
 refine Lib.hid ?_; clear hg0 hg1 hg2; have HX2 := Lib.hid (zak HX1.out hb2); have HB2 := Lib.hid (zam HB1.out hb2); clear HX1 HB1 HG2 hb2; have hlen := setsL_len HFT.out.len HFT.out.lenV
 go_wp2_with fail
 have hnew := zau w2 (.cells Tryd.zeroCells254 254); have hsz : Tryd.zeroCells254.size = (setsL s.1 s.2).length := by rw [zero254, hlen]; decide
 rw [run_storeAll hnew hsz setsL_one]; have HN := Lib.hid (blk_storeAll hnew hsz); have HX3 := Lib.hid (far_storeAll (cs := setsL s.1 s.2) (zad HX2.out (.cells Tryd.zeroCells254 254)) (Nat.ne_of_lt (zba HX2.out))); have HB3 := Lib.hid (below_storeAll (zac HB2.out (.cells Tryd.zeroCells254 254)) HB2.out.size (setsL s.1 s.2)); have hnb : w.heap.size < w2.heap.size := zba HX2.out; clear hnew hsz hlen HX2 HB2; generalize hgb : w2.heap.size = nb at *; generalize (w2.alloc (.cells Tryd.zeroCells254 254)).setCells nb 0 (setsL s.1 s.2) = W3 at *; have hg0 := zaa HX3.out 0; have hg1 := zaa HX3.out 1; simp at hg0 hg1; have hlm : IntKind.i64.wrap ((l.length : Int) + (m.length : Int)) = ((l.length + m.length : Nat) : Int) := by rw [IntWalk.i64_in _ (by omega)]; omega
 obtain ⟨q, hq⟩ : ∃ q, q = l.length + m.length := ⟨_, rfl⟩; have hq2 : q ≤ 192 := by omega
 rw [← hq] at hlm ⊢; have HQ := Lib.hid hq; clear hq; have hql : (s.1.take q).length = q := by rw [List.length_take]; have := HFT.out.len; omega
 have HC : Hid (kU.C W3 (some ⟨nb, 0, none⟩) q (s.1.take q)) := Lib.hid (by have h := C_fst HFT.out.len HN.out q; rw [hql] at h; exact h)
 have HQL := Lib.hid hql; have hsli := slice251 W3 nb 0 q hq2; clear hql; have hsl : (0 + q) * 8 ≤ 140737488355328 := by omega
 go_wp2_with ((with_reducible refine zay (b := .append) (xs := #[.const (.slice none 0 0), .tmp 17]) rfl ?_); at_builtin; refine Kd.zbj kU (w0 := w) w.heap.size rfl (.const (.slice none 0 0)) (.tmp 17) 168 128 (.int .u64 0) 8 rfl Tryd.underlying168 info128 rfl (by decide) (by decide) (.slice none 0 0) [] (s.1.take q) _ _ _ tru (fun _ => False) rfl rfl (Kd.R_nil _ _ _ _ _) HC.out (fun _ _ h => h) (fun _ h => h.elim) (fun _ _ => trivial) HB3.out HB3.out.size hsl ?_; intro v4 w4 ho4 hb4 hg4 hat4; have HO4 := Lib.hid ho4; have HB4 := Lib.hid hb4; clear ho4 hb4 hg4 hat4)
 clear hsli
 go_wp2_with fail
 go_ret; exact ⟨v4, rfl, by rw [← HQ.out]; exact HO4.out, HB4.out⟩
end Bld
end Go.Proofs.YtcijanmckhlpiaaDoor
namespace Go.Proofs.YtcijanmckhlpiaaDoorW.PrintWords
open Go.RowKit
theorem own_cset {W : World} {base g n' n cap size : Nat} {e : TypeId} {inner : List Value} (h : W.ownsRow base e size (.slice (some ⟨g, 0, none⟩) n' cap) n inner) (i : Nat) (u : Value) :
  (W.setCell ⟨g, i, none⟩ u).ownsRow base e size (.slice (some ⟨g, 0, none⟩) n' cap) n (inner.set i u) := by
 rcases h.2 with ⟨h0, _⟩ | ⟨g', cap', cur, hv, hbase, hb, h1, h2, h3, h4⟩
 ·cases h0
 cases hv; exact ⟨by rw [List.length_set]; exact h.1, .inr ⟨g, cap, _, rfl, hbase, blk_set hb i u, h1, h2, by simp [h3], by rw [Array.toList_setIfInBounds, List.take_set, h4]⟩⟩
namespace Kd
theorem R_fset {α : Type} {d : Kd α} {e base g n cap : Nat} {ok : Nat → Prop} {W : World} {xs : List α} (h : d.R e W base ok (.slice (some ⟨g, 0, none⟩) n cap) xs) (j : Nat) (x x' : α) (hx : xs[j]? = some x) (f : Nat) (hf : f < d.sz) (u : Value)
  (hM : ∀ (W : World) (ok : Nat → Prop) cs, d.M W base ok x cs → d.M W base ok x' (cs.set f u)) : d.R e (W.setCell ⟨g, j * d.sz + f, none⟩ u) base ok (.slice (some ⟨g, 0, none⟩) n cap) (xs.set j x') := by
 obtain ⟨h0, inner, ho, hr⟩ := h; have hown : (Value.slice (some ⟨g, 0, none⟩) n cap).ownBlock = some g := rfl; have hfar : ∀ p c, d.M W base (fun k => ok k ∧ some k ≠ (Value.slice (some ⟨g, 0, none⟩) n cap).ownBlock) p c → d.M (W.setCell ⟨g, j * d.sz + f, none⟩ u) base (fun k => ok k ∧ some k ≠ (Value.slice (some ⟨g, 0, none⟩) n cap).ownBlock) p c :=
  fun p c hm => d.M_far hm (fun k hk e => hk.2 (by rw [hown, e])) u
 refine ⟨h0, inner.set (j * d.sz + f) u, by rw [List.length_set]; exact own_cset ho _ u, by rw [List.length_set, List.length_set]; exact hr.1, fun i p hi => ?_⟩
 have hjl := (List.getElem?_eq_some_iff.1 hx).1; by_cases hij : i = j
 ·subst hij; rw [List.getElem?_set_self (by omega)] at hi
  cases hi; have h1 := hM _ _ _ (hfar _ _ (hr.2 i x hx)); rw [List.drop_set, if_neg (by omega), List.take_set, show i * d.sz + f - i * d.sz = f by omega]
  exact h1
 ·rw [List.getElem?_set_ne (fun e => hij e.symm)] at hi
  have h1 := hfar _ _ (hr.2 i p hi); rcases Nat.lt_or_gt_of_ne hij with c | c
  ·have h2 : (i + 1) * d.sz ≤ j * d.sz := Nat.mul_le_mul_right _ c; rw [Nat.succ_mul] at h2; rw [List.drop_set, if_neg (by omega), List.take_set, List.set_eq_of_length_le (by rw [List.length_take]; omega)]
   exact h1
  ·have h2 : (j + 1) * d.sz ≤ i * d.sz := Nat.mul_le_mul_right _ c; rw [Nat.succ_mul] at h2; rw [List.drop_set, if_pos (by omega)]
   exact h1
end Kd
end Go.Proofs.YtcijanmckhlpiaaDoorW.PrintWords
namespace Go.Proofs.YtcijanmckhlpiaaDoor
open Go.RowKit Go.Proofs.YtcijanmckhlpiaaDoorW.PrintWords Go.Proofs.YtcijanmckhlpiaaDoorW.PrintLast Go.Proofs.YtcijanmckhlpiaaDoorW.PrintMore Go.Proofs.YtcijanmckhlpiaaDoor.PTableBuilds
namespace Bld
structure Rows {α : Type} (k : Kd α) (t : Nat) (w : World) (base : Nat) (vs : List Value) (xs : List (List α)) : Prop where
 len : vs.length = xs.length
 row : ∀ (j : Nat) (v : Value) (x : List α), vs[j]? = some v → xs[j]? = some x → k.R t w base (fun q => some q = v.ownBlock) v x
 apart : ∀ (i j : Nat) (u v : Value), i ≠ j → vs[i]? = some u → vs[j]? = some v → ∀ q, u.ownBlock = some q → v.ownBlock ≠ some q
section
variable {α : Type} {k : Kd α} {t : Nat} {w w1 : World} {base : Nat} {vs : List Value} {xs : List (List α)}
theorem Rows.at_ (h : Rows k t w base vs xs) {j : Nat} {v : Value} (hv : vs[j]? = some v) : ∃ x, xs[j]? = some x ∧ k.R t w base (fun q => some q = v.ownBlock) v x := by
 obtain ⟨hj, _⟩ := List.getElem?_eq_some_iff.1 hv; have hx : xs[j]? = some (xs[j]'(by have := h.len; omega)) := List.getElem?_eq_getElem _
 exact ⟨_, hx, h.row j v _ hv hx⟩
theorem Rows.lt (h : Rows k t w base vs xs) {j : Nat} {v : Value} (hv : vs[j]? = some v) {q : Nat} (hq : v.ownBlock = some q) : q < w.heap.size := by
 obtain ⟨x, _, hr⟩ := h.at_ hv; exact Kd.R_lt hr q hq
theorem Rows.ge (h : Rows k t w base vs xs) {j : Nat} {v : Value} (hv : vs[j]? = some v) {q : Nat} (hq : v.ownBlock = some q) : base ≤ q := by
 obtain ⟨x, _, hr⟩ := h.at_ hv; exact Kd.R_base hr q hq
theorem Rows.typed (h : Rows k t w base vs xs) {j : Nat} {v : Value} (hv : vs[j]? = some v) {q : Nat} (hq : v.ownBlock = some q) : ∃ cells, w.heap[q]? = some (.cells cells t (0, 0)) := by
 obtain ⟨x, _, hr⟩ := h.at_ hv; exact Kd.R_typed hr q hq
theorem Rows.move (h : Rows k t w base vs xs) (hm : ∀ (j : Nat) (v : Value) (q : Nat), vs[j]? = some v → v.ownBlock = some q → q < w.heap.size → w1.heap[q]? = w.heap[q]?) : Rows k t w1 base vs xs :=
 ⟨h.len, fun j v x hv hx => Kd.R_step (h.row j v x hv hx) (fun q hq hlt => hm j v q hv hq.symm hlt), h.apart⟩
theorem Rows.below (h : Rows k t w base vs xs) (hb : Below w.heap.size w w1) : Rows k t w1 base vs xs := h.move (fun _ _ q _ _ hlt => hb.block q hlt)
theorem Rows.grown (h : Rows k t w base vs xs) {row : Option Nat} (hg : w.grownBy w1 row) (hn : ∀ (j : Nat) (v : Value) (q : Nat), vs[j]? = some v → v.ownBlock = some q → some q ≠ row) : Rows k t w1 base vs xs :=
 h.move (fun j v q hv hq hlt => hg.block q hlt (hn j v q hv hq))
theorem Rows.far (h : Rows k t w base vs xs) {p : Addr} (u : Value) (hn : ∀ (j : Nat) (v : Value) (q : Nat), vs[j]? = some v → v.ownBlock = some q → q ≠ p.block) : Rows k t (w.setCell p u) base vs xs :=
 h.move (fun j v q hv hq _ => Below.heap_setCell w p u q (hn j v q hv hq))
theorem Rows.ne (h : Rows k t w base vs xs) {g t' : Nat} {cs : Array Value} (hb : w.heap[g]? = some (.cells cs t' (0, 0))) (ht : t ≠ t') {j : Nat} {v : Value} (hv : vs[j]? = some v) {q : Nat} (hq : v.ownBlock = some q) : q ≠ g := by
 rintro rfl; obtain ⟨cells, hc⟩ := h.typed hv hq; rw [hc] at hb; injection hb with hb; injection hb with _ hb; exact ht hb
theorem Rows.set (h : Rows k t w base vs xs) {g t' : Nat} {cs : Array Value} (hb : w.heap[g]? = some (.cells cs t' (0, 0))) (ht : t ≠ t') (i : Nat) (u : Value) : Rows k t (w.setCell ⟨g, i, none⟩ u) base vs xs :=
 h.far u (fun j v q hv hq => h.ne hb ht hv hq)
theorem Rows.over {β : Type} {d : Kd β} {e b : Nat} {ok : Nat → Prop} {u : Value} {ys : List β} (h : Rows k t w base vs xs) (hu : d.R e w b ok u ys) (ht : t ≠ e) (hg : w.grownBy w1 u.ownBlock) : Rows k t w1 base vs xs :=
 h.grown hg (fun j v q hv hq he => by
  obtain ⟨cells, hc⟩ := Kd.R_typed hu q he.symm; exact h.ne hc ht hv hq rfl)
theorem Rows.put (hE : k.E = []) (h : Rows k t w base vs xs) {x : Nat} {v v1 : Value} {ys : List α} {ok : Nat → Prop} (hv : vs[x]? = some v) (hg : w.grownBy w1 v.ownBlock) (hR : k.R t w1 base ok v1 ys) (hat : v1.ownBlock = v.ownBlock ∨ ∃ b, v1.ownBlock = some b ∧ w.heap.size ≤ b) : Rows k t w1 base (vs.set x v1) (xs.set x ys) := by
 have hx := (List.getElem?_eq_some_iff.1 hv).1; refine ⟨by rw [List.length_set, List.length_set]; exact h.len, fun j u y hu hy => ?_, fun i j u u' hij hu hu' q hq => ?_⟩
 ·by_cases hjx : x = j
  ·subst hjx; rw [List.getElem?_set_self hx] at hu; rw [List.getElem?_set_self (by have := h.len; omega)] at hy
   cases hu; cases hy; exact Kd.R_tight hE hR
  ·rw [List.getElem?_set_ne hjx] at hu hy; exact Kd.R_grown (h.row j u y hu hy) hg (fun q hq he => h.apart j x u v (fun e => hjx e.symm) hu hv q hq.symm he.symm)
 ·by_cases hix : x = i
  ·subst hix; rw [List.getElem?_set_self hx] at hu; cases hu; rw [List.getElem?_set_ne hij] at hu'; rcases hat with hat | ⟨b, hb, hle⟩
   ·exact h.apart x j v u' hij hv hu' q (hat ▸ hq)
   ·intro he; have := h.lt hu' he; rw [hb] at hq; cases hq; omega
  ·rw [List.getElem?_set_ne hix] at hu; by_cases hjx : x = j
   ·subst hjx; rw [List.getElem?_set_self hx] at hu'; cases hu'; rcases hat with hat | ⟨b, hb, hle⟩
    ·rw [hat]; exact h.apart i x u v hij hu hv q hq
    ·intro he; have := h.lt hu hq; rw [hb] at he; cases he; omega
   ·rw [List.getElem?_set_ne hjx] at hu'; exact h.apart i j u u' hij hu hu' q hq
theorem Rows.nil (hk : k.E = []) (n : Nat) : Rows k t w base (List.replicate n (.slice none 0 0)) (List.replicate n []) := by
 refine ⟨by simp, fun j v x hv hx => ?_, fun i j u v _ hu _ q hq => ?_⟩
 ·have h1 := List.mem_of_getElem? hv; have h2 := List.mem_of_getElem? hx; rw [List.mem_replicate] at h1 h2; obtain ⟨_, rfl⟩ := h1; obtain ⟨_, rfl⟩ := h2; exact Kd.R_nil _ _ _ _ _
 ·have h1 := List.mem_of_getElem? hu; rw [List.mem_replicate] at h1; obtain ⟨_, rfl⟩ := h1; simp [Value.ownBlock] at hq
theorem Rows.reads (h : Rows k t w base vs xs) {g t' : Nat} (hb : w.heap[g]? = some (.cells vs.toArray t' (0, 0))) (hm : vs.length ≤ 9223372036854775807) : (Kd.slice t k).C w (some ⟨g, 0, none⟩) xs.length xs := by
 refine ⟨rfl, by rw [← h.len]; exact hm, fun _ => ⟨_, rfl, fun j p hj => ?_⟩⟩
 obtain ⟨hl, _⟩ := List.getElem?_eq_some_iff.1 hj; have hv : vs[j]? = some (vs[j]'(by have := h.len; omega)) := List.getElem?_eq_getElem _
 generalize vs[j]'(by have := h.len; omega) = v at hv
 obtain ⟨A, c, rfl, hc, hC⟩ := Kd.zbb (h.row j _ p hv hj); refine ⟨[.slice A p.length c], rfl, ⟨A, c, rfl, hc, hC⟩, fun i u hu => ?_⟩
 cases i with
 | zero =>
  have e : Value.slice A p.length c = u := by simpa using hu
  subst e; rw [Addr.add_mid, zaa hb, List.getElem?_toArray, show 0 + (j * (Kd.slice t k).sz + 0) = j by simp [Kd.slice]]
  exact hv
 | succ i => simp at hu
end
structure Bk (w0 W : World) (gb : Nat) (bc : Array Value) (go : Nat) (vs va : Value) (vo : List Value) (sp : List S230) (at_ : List Nat) (of_ : List (List Nat)) : Prop where
 below : Below w0.heap.size w0 W
 bk : W.heap[gb]? = some (.cells bc 225 (0, 0))
 ob : W.heap[go]? = some (.cells vo.toArray 95 (0, 0))
 sp : k230.R 230 W w0.heap.size tru vs sp
 at_ : kN.R 3 W w0.heap.size tru va at_
 of_ : Rows kN 3 W w0.heap.size vo of_
 ap : ∀ (j : Nat) (v : Value) (q : Nat), vo[j]? = some v → v.ownBlock = some q → va.ownBlock ≠ some q
 ge : w0.heap.size ≤ gb ∧ w0.heap.size ≤ go
section
variable {w0 W W1 : World} {gb go : Nat} {bc : Array Value} {vs va : Value} {vo : List Value} {sp : List S230} {at_ : List Nat} {of_ : List (List Nat)}
theorem EN : kN.E = [] := rfl
theorem Bk.bel (h : Bk w0 W gb bc go vs va vo sp at_ of_) (hb : Below W.heap.size W W1) : Bk w0 W1 gb bc go vs va vo sp at_ of_ :=
 ⟨zam h.below hb, zak h.bk hb, zak h.ob hb, Kd.zbf h.sp hb, Kd.zbf h.at_ hb, h.of_.below hb, h.ap, h.ge⟩
theorem Bk.alloc (h : Bk w0 W gb bc go vs va vo sp at_ of_) (o : Obj) : Bk w0 (W.alloc o) gb bc go vs va vo sp at_ of_ := h.bel (zac (Below.refl _ _) o)
theorem Bk.drewN (h : Bk w0 W gb bc go vs va vo sp at_ of_) (n : Nat) : Bk w0 (W.drewN n) gb bc go vs va vo sp at_ of_ := h.bel (zab (Below.refl _ _) n)
theorem Bk.drew (h : Bk w0 W gb bc go vs va vo sp at_ of_) : Bk w0 W.drew gb bc go vs va vo sp at_ of_ := h.bel (zaw (Below.refl _ _))
theorem Bk.setB (h : Bk w0 W gb bc go vs va vo sp at_ of_) (i : Nat) (u : Value) {bc' : Array Value} (e : bc.setIfInBounds i u = bc') : Bk w0 (W.setCell ⟨gb, i, none⟩ u) gb bc' go vs va vo sp at_ of_ :=
 ⟨zaf h.below h.ge.1, zat h.bk i u e, zar h.ob (p := ⟨gb, i, none⟩) (blk_ne h.ob h.bk (by decide)) u, Kd.zbp h.sp h.bk (by decide) i u, Kd.zbp h.at_ h.bk (by decide) i u, h.of_.set h.bk (by decide) i u, h.ap, h.ge⟩
theorem Bk.appAt (h : Bk w0 W gb bc go vs va vo sp at_ of_) {v1 : Value} {ys : List Nat} (hR : kN.R 3 W1 w0.heap.size tru v1 ys) (hg : W.grownBy W1 va.ownBlock) (hat : v1.ownBlock = va.ownBlock ∨ ∃ b, v1.ownBlock = some b ∧ W.heap.size ≤ b) (hb : Below w0.heap.size w0 W1) : Bk w0 W1 gb bc go vs v1 vo sp ys of_ :=
 ⟨hb, zas h.bk hg (Kd.R_ne h.at_ h.bk (by decide)), zas h.ob hg (Kd.R_ne h.at_ h.ob (by decide)), Kd.zbn h.sp h.at_ (by decide) hg, hR, h.of_.grown hg (fun j v q hv hq he => h.ap j v q hv hq he.symm),
  fun j v q hv hq => by
   rcases hat with hat | ⟨b, hb, hle⟩
   ·rw [hat]; exact h.ap j v q hv hq
   ·intro he; have := h.of_.lt hv hq; rw [hb] at he; cases he; omega, h.ge⟩
theorem Bk.appSp (h : Bk w0 W gb bc go vs va vo sp at_ of_) {v1 : Value} {ys : List S230} (hR : k230.R 230 W1 w0.heap.size tru v1 ys) (hg : W.grownBy W1 vs.ownBlock) (hb : Below w0.heap.size w0 W1) : Bk w0 W1 gb bc go v1 va vo ys at_ of_ :=
 ⟨hb, zas h.bk hg (Kd.R_ne h.sp h.bk (by decide)), zas h.ob hg (Kd.R_ne h.sp h.ob (by decide)), hR, Kd.zbn h.at_ h.sp (by decide) hg, h.of_.over h.sp (by decide) hg, h.ap, h.ge⟩
theorem Bk.appOf (h : Bk w0 W gb bc go vs va vo sp at_ of_) {x : Nat} {v v1 : Value} {ys : List Nat} {ok : Nat → Prop} (hv : vo[x]? = some v) (hR : kN.R 3 W1 w0.heap.size ok v1 ys) (hg : W.grownBy W1 v.ownBlock) (hat : v1.ownBlock = v.ownBlock ∨ ∃ b, v1.ownBlock = some b ∧ W.heap.size ≤ b) (hb : Below w0.heap.size w0 W1) : Bk w0 (W1.setCell ⟨go, x, none⟩ v1) gb bc go vs va (vo.set x v1) sp at_ (of_.set x ys) := by
 obtain ⟨y, hy, hr⟩ := h.of_.at_ hv; have h1 := zas h.bk hg (Kd.R_ne hr h.bk (by decide))
 have h2 := zas h.ob hg (Kd.R_ne hr h.ob (by decide))
 have h3 := Kd.zbn h.sp hr (by decide) hg
 have h4 : kN.R 3 W1 w0.heap.size tru va at_ := Kd.R_mono (Kd.R_grown (Kd.R_tight EN h.at_) hg (fun q hq he => by
  cases hvo : v.ownBlock with
  | none => rw [hvo] at he; cases he
  | some q' =>
   rw [hvo] at he; cases he; exact h.ap x v _ hv hvo hq.symm)) (fun _ _ => trivial)
 have h5 := h.of_.put EN hv hg hR hat; refine ⟨zaf hb h.ge.2, zar h1 (p := ⟨go, x, none⟩) (blk_ne h1 h2 (by decide)) v1, zat h2 x v1 (by rw [List.setIfInBounds_toArray]), Kd.zbp h3 h2 (by decide) x v1, Kd.zbp h4 h2 (by decide) x v1, h5.set h2 (by decide) x v1, fun j u q hu hq => ?_, h.ge⟩
 have hx := (List.getElem?_eq_some_iff.1 hv).1; by_cases hjx : x = j
 ·subst hjx; rw [List.getElem?_set_self hx] at hu; cases hu; rcases hat with hat | ⟨b, hb, hle⟩
  ·rw [hat] at hq; exact h.ap x v q hv hq
  ·rw [hb] at hq; cases hq; intro he; have := Kd.R_lt h.at_ _ he; omega
 ·rw [List.getElem?_set_ne hjx] at hu; exact h.ap j u q hu hq
theorem Bk.setSp (h : Bk w0 W gb bc go vs va vo sp at_ of_) {gs n cap : Nat} (hv : vs = .slice (some ⟨gs, 0, none⟩) n cap) (j : Nat) (x x' : S230) (hx : sp[j]? = some x) (f : Nat) (hf : f < 5) (u : Value) (hM : ∀ (W : World) (b : Nat) (ok : Nat → Prop) cs, k230.M W b ok x cs → k230.M W b ok x' (cs.set f u)) : Bk w0 (W.setCell ⟨gs, j * 5 + f, none⟩ u) gb bc go vs va vo (sp.set j x') at_ of_ := by
 subst hv; obtain ⟨cells, hc⟩ := Kd.R_typed h.sp gs rfl; have hgs : w0.heap.size ≤ gs := Kd.R_base h.sp gs rfl; exact ⟨zaf h.below hgs, zar h.bk (p := ⟨gs, _, none⟩) (blk_ne h.bk hc (by decide)) u, zar h.ob (p := ⟨gs, _, none⟩) (blk_ne h.ob hc (by decide)) u, Kd.R_fset h.sp j x x' hx f hf u (fun W ok cs hm => hM W _ ok cs hm), Kd.zbp h.at_ hc (by decide) _ u, h.of_.set hc (by decide) _ u, h.ap, h.ge⟩
end
end Bld
end Go.Proofs.YtcijanmckhlpiaaDoor
namespace Go.Proofs.YtcijanmckhlpiaaDoor
open Go.RowKit Go.Proofs.YtcijanmckhlpiaaDoor.PTableBuilds
namespace Bld
def lk (F : List Nat) (V : List Bool) : List S110 → Nat × Bool
 | [] => (0, true)
 | r :: l => (if van V r.f0.toNat = true then fst F r.f0.toNat ||| (lk F V l).1 else fst F r.f0.toNat, van V r.f0.toNat && (lk F V l).2)
def symAt (l : List S110) (j : Nat) : Int := match l[j]? with
 | some r => r.f0
 | none => -1
def spotF (F : List Nat) (V : List Bool) (i : Nat) (l : List S110) (j : Nat) : S230 := ⟨i, j, symAt l j, ((lk F V (l.drop (j + 1))).1 : Nat), (lk F V (l.drop (j + 1))).2⟩
def spotB (i j : Nat) : S230 := ⟨i, j, -1, 0, true⟩
def rowAt (F : List Nat) (V : List Bool) (i : Nat) (l : List S110) (j : Nat) : List S230 := (List.range (l.length + 1)).map fun d => if j ≤ d then spotF F V i l d else spotB i d
theorem rowAt_len (F : List Nat) (V : List Bool) (i : Nat) (l : List S110) (j : Nat) : (rowAt F V i l j).length = l.length + 1 := by simp [rowAt]
theorem rowAt_get {F : List Nat} {V : List Bool} {i : Nat} {l : List S110} {j d : Nat} (hd : d ≤ l.length) : (rowAt F V i l j)[d]? = some (if j ≤ d then spotF F V i l d else spotB i d) := by
 unfold rowAt; rw [List.getElem?_map, List.getElem?_range (by omega)]
 rfl
theorem rowAt_top (F : List Nat) (V : List Bool) (i : Nat) (l : List S110) : rowAt F V i l l.length = (List.range (l.length + 1)).map (spotB i) := by
 unfold rowAt; apply List.map_congr_left; intro d hd; rw [List.mem_range] at hd
 split
 ·have : d = l.length := by omega
  subst this; unfold spotF spotB symAt; rw [List.getElem?_eq_none (by omega), List.drop_eq_nil_of_le (by omega)]
  rfl
 ·rfl
theorem rowAt_set {F : List Nat} {V : List Bool} {i : Nat} {l : List S110} {j : Nat} (hj : j < l.length) : (rowAt F V i l (j + 1)).set j (spotF F V i l j) = rowAt F V i l j := by
 apply List.ext_getElem?; intro d; rcases Nat.lt_or_ge d (l.length + 1) with hd | hd
 ·rw [List.getElem?_set, rowAt_get (by omega), rowAt_get (by omega)]
  by_cases h : j = d
  ·subst h; rw [if_pos rfl, if_pos (by rw [rowAt_len]; omega), if_pos (Nat.le_refl _)]
  ·rw [if_neg h]; by_cases h2 : j + 1 ≤ d
   ·rw [if_pos h2, if_pos (by omega)]
   ·rw [if_neg h2, if_neg (by omega)]
 ·rw [List.getElem?_eq_none (by rw [List.length_set, rowAt_len]; omega), List.getElem?_eq_none (by rw [rowAt_len]; omega)]
def zbc (F : List Nat) (V : List Bool) : Nat → List S77 → List S230
 | _, [] => []
 | i, p :: ps => rowAt F V i p.f1 0 ++ zbc F V (i + 1) ps
def atS : Nat → List S77 → List Nat
 | _, [] => []
 | n, p :: ps => n :: atS (n + p.f1.length + 1) ps
def ofRow (x : Nat) : Nat → List S77 → List Nat
 | _, [] => []
 | n, p :: ps => if p.f0 = (x : Int) then n :: ofRow x (n + p.f1.length + 1) ps else ofRow x (n + p.f1.length + 1) ps
def zbo (M : Nat) (ps : List S77) : List (List Nat) := (List.range M).map fun x => ofRow x 0 ps
theorem dots_snoc (ps : List S77) (p : S77) : dots (ps ++ [p]) = dots ps + (p.f1.length + 1) := by simp [dots]
theorem dots_cons (ps : List S77) (p : S77) : dots (p :: ps) = p.f1.length + 1 + dots ps := by simp [dots]
theorem dots_take (ps : List S77) (i : Nat) : dots (ps.take i) ≤ dots ps := by
 have : dots ps = dots (ps.take i) + dots (ps.drop i) := by
  conv => lhs; rw [← List.take_append_drop i ps]
  unfold dots; rw [List.map_append, List.sum_append_nat]
 omega
theorem spotsS_len (F : List Nat) (V : List Bool) : ∀ (ps : List S77) (i : Nat), (zbc F V i ps).length = dots ps
 | [], _ => rfl
 | p :: ps, i => by
  unfold zbc; rw [List.length_append, rowAt_len, spotsS_len F V ps (i + 1), dots_cons]
theorem spotsS_snoc (F : List Nat) (V : List Bool) (p : S77) : ∀ (ps : List S77) (i : Nat), zbc F V i (ps ++ [p]) = zbc F V i ps ++ rowAt F V (i + ps.length) p.f1 0
 | [], i => by simp [zbc]
 | q :: ps, i => by
  rw [List.cons_append]; unfold zbc; rw [spotsS_snoc F V p ps (i + 1), List.append_assoc, List.length_cons, show i + 1 + ps.length = i + (ps.length + 1) by omega]
theorem atS_snoc (p : S77) : ∀ (ps : List S77) (n : Nat), atS n (ps ++ [p]) = atS n ps ++ [n + dots ps]
 | [], n => by simp [atS, dots]
 | q :: ps, n => by
  rw [List.cons_append]; unfold atS; rw [atS_snoc p ps, dots_cons, List.cons_append, show n + q.f1.length + 1 + dots ps = n + (q.f1.length + 1 + dots ps) by omega]
theorem ofRow_snoc (x : Nat) (p : S77) : ∀ (ps : List S77) (n : Nat), ofRow x n (ps ++ [p]) = ofRow x n ps ++ (if p.f0 = (x : Int) then [n + dots ps] else [])
 | [], n => by simp [ofRow, dots]
 | q :: ps, n => by
  rw [List.cons_append]; unfold ofRow; rw [ofRow_snoc x p ps, dots_cons, show n + q.f1.length + 1 + dots ps = n + (q.f1.length + 1 + dots ps) by omega]
  by_cases h : q.f0 = (x : Int)
  ·simp only [if_pos h, List.cons_append]
  ·simp only [if_neg h]
theorem ofAll_len (M : Nat) (ps : List S77) : (zbo M ps).length = M := by simp [zbo]
theorem ofAll_get {M : Nat} {ps : List S77} {x : Nat} (hx : x < M) : (zbo M ps)[x]? = some (ofRow x 0 ps) := by
 unfold zbo; rw [List.getElem?_map, List.getElem?_range hx]; rfl
theorem ofAll_snoc {M : Nat} {ps : List S77} {p : S77} {x : Nat} (hp : p.f0 = (x : Int)) (hx : x < M) : (zbo M ps).set x (ofRow x 0 ps ++ [dots ps]) = zbo M (ps ++ [p]) := by
 apply List.ext_getElem?; intro d; rcases Nat.lt_or_ge d M with hd | hd
 ·rw [List.getElem?_set, ofAll_get hd, ofAll_get hd, ofRow_snoc]; by_cases h : x = d
  ·subst h; rw [if_pos rfl, if_pos (by rw [ofAll_len]; exact hx), if_pos hp, Nat.zero_add]
  ·rw [if_neg h, if_neg (by omega), List.append_nil]
 ·rw [List.getElem?_eq_none (by rw [List.length_set, ofAll_len]; exact hd), List.getElem?_eq_none (by rw [ofAll_len]; exact hd)]
theorem ofAll_neg {M : Nat} {ps : List S77} {p : S77} (hp : p.f0 < 0) : zbo M (ps ++ [p]) = zbo M ps := by
 unfold zbo; apply List.map_congr_left; intro x _; rw [ofRow_snoc, if_neg (by omega), List.append_nil]
theorem lk_cons {F : List Nat} {V : List Bool} {l : List S110} {j : Nat} (hj : j < l.length) : lk F V (l.drop j) = (if van V (zax l (j : Int)).f0.toNat = true then fst F (zax l (j : Int)).f0.toNat ||| (lk F V (l.drop (j + 1))).1 else fst F (zax l (j : Int)).f0.toNat, van V (zax l (j : Int)).f0.toNat && (lk F V (l.drop (j + 1))).2) := by
 rw [List.drop_eq_getElem_cons hj]; have e : zax l (j : Int) = l[j] := by unfold zax; rw [Int.toNat_natCast, List.getD_eq_getElem?_getD, List.getElem?_eq_getElem hj]; rfl
 rw [e]; rfl
theorem symAt_rd {l : List S110} {j : Nat} (hj : j < l.length) : symAt l j = (zax l (j : Int)).f0 := by
 have e : zax l (j : Int) = l[j] := by unfold zax; rw [Int.toNat_natCast, List.getD_eq_getElem?_getD, List.getElem?_eq_getElem hj]; rfl
 rw [e]; unfold symAt; rw [List.getElem?_eq_getElem hj]
theorem lk_lt {F : List Nat} {V : List Bool} (hb : ∀ x ∈ F, x < zbi) : ∀ (l : List S110), (lk F V l).1 < zbi
 | [] => (by decide : (0 : Nat) < zbi)
 | r :: l => by
  unfold lk; simp only
  split
  ·exact or_lt (fst_lt hb _) (lk_lt hb l)
  ·exact fst_lt hb _
theorem take_snoc77 {ps : List S77} {i : Nat} (hi : i < ps.length) : ps.take (i + 1) = ps.take i ++ [zal ps (i : Int)] := by
 have e : zal ps (i : Int) = ps[i] := by unfold zal; rw [Int.toNat_natCast, List.getD_eq_getElem?_getD, List.getElem?_eq_getElem hi]; rfl
 rw [e, List.take_succ_eq_append_getElem hi]
end Bld
end Go.Proofs.YtcijanmckhlpiaaDoor
namespace Go.Proofs.YtcijanmckhlpiaaDoor
open Go.RowKit Go.Proofs.YtcijanmckhlpiaaDoorW.PrintWords Go.Proofs.YtcijanmckhlpiaaDoorW.PrintLast Go.Proofs.YtcijanmckhlpiaaDoorW.PrintMore Go.Proofs.YtcijanmckhlpiaaDoor.PTableBuilds
namespace Bld
structure Bx (w0 W : World) (g0 : Nat) (gc : Array Value) (v4 : Value) (ns : List Bool) (v5 : Value) (fs : List Nat) (gb : Nat) (bc : Array Value) (go : Nat) (vs va : Value) (vo : List Value) (sp : List S230) (at_ : List Nat) (of_ : List (List Nat)) : Prop where
 b : Bk w0 W gb bc go vs va vo sp at_ of_
 g : W.heap[g0]? = some (.cells gc 51 (0, 0))
 n : Kd.bool.R 4 W w0.heap.size tru v4 ns
 f : kU.R 128 W w0.heap.size tru v5 fs
section
variable {w0 W W1 : World} {g0 : Nat} {gc : Array Value} {v4 : Value} {ns : List Bool} {v5 : Value} {fs : List Nat} {gb go : Nat} {bc : Array Value} {vs va : Value} {vo : List Value} {sp : List S230} {at_ : List Nat} {of_ : List (List Nat)}
theorem Bx.bel (h : Bx w0 W g0 gc v4 ns v5 fs gb bc go vs va vo sp at_ of_) (hb : Below W.heap.size W W1) : Bx w0 W1 g0 gc v4 ns v5 fs gb bc go vs va vo sp at_ of_ := ⟨h.b.bel hb, zak h.g hb, Kd.zbf h.n hb, Kd.zbf h.f hb⟩
theorem Bx.alloc (h : Bx w0 W g0 gc v4 ns v5 fs gb bc go vs va vo sp at_ of_) (o : Obj) : Bx w0 (W.alloc o) g0 gc v4 ns v5 fs gb bc go vs va vo sp at_ of_ := h.bel (zac (Below.refl _ _) o)
theorem Bx.drewN (h : Bx w0 W g0 gc v4 ns v5 fs gb bc go vs va vo sp at_ of_) (n : Nat) : Bx w0 (W.drewN n) g0 gc v4 ns v5 fs gb bc go vs va vo sp at_ of_ := h.bel (zab (Below.refl _ _) n)
theorem Bx.drew (h : Bx w0 W g0 gc v4 ns v5 fs gb bc go vs va vo sp at_ of_) : Bx w0 W.drew g0 gc v4 ns v5 fs gb bc go vs va vo sp at_ of_ := h.bel (zaw (Below.refl _ _))
theorem Bx.setB (h : Bx w0 W g0 gc v4 ns v5 fs gb bc go vs va vo sp at_ of_) (i : Nat) (u : Value) {bc' : Array Value} (e : bc.setIfInBounds i u = bc') : Bx w0 (W.setCell ⟨gb, i, none⟩ u) g0 gc v4 ns v5 fs gb bc' go vs va vo sp at_ of_ :=
 ⟨h.b.setB i u e, zar h.g (p := ⟨gb, i, none⟩) (blk_ne h.g h.b.bk (by decide)) u, Kd.zbp h.n h.b.bk (by decide) i u, Kd.zbp h.f h.b.bk (by decide) i u⟩
theorem Bx.appAt (h : Bx w0 W g0 gc v4 ns v5 fs gb bc go vs va vo sp at_ of_) {v1 : Value} {ys : List Nat} (hR : kN.R 3 W1 w0.heap.size tru v1 ys) (hg : W.grownBy W1 va.ownBlock) (hat : v1.ownBlock = va.ownBlock ∨ ∃ b, v1.ownBlock = some b ∧ W.heap.size ≤ b) (hb : Below w0.heap.size w0 W1) : Bx w0 W1 g0 gc v4 ns v5 fs gb bc go vs v1 vo sp ys of_ :=
 ⟨h.b.appAt hR hg hat hb, zas h.g hg (Kd.R_ne h.b.at_ h.g (by decide)), Kd.zbn h.n h.b.at_ (by decide) hg, Kd.zbn h.f h.b.at_ (by decide) hg⟩
theorem Bx.appSp (h : Bx w0 W g0 gc v4 ns v5 fs gb bc go vs va vo sp at_ of_) {v1 : Value} {ys : List S230} (hR : k230.R 230 W1 w0.heap.size tru v1 ys) (hg : W.grownBy W1 vs.ownBlock) (hb : Below w0.heap.size w0 W1) : Bx w0 W1 g0 gc v4 ns v5 fs gb bc go v1 va vo ys at_ of_ :=
 ⟨h.b.appSp hR hg hb, zas h.g hg (Kd.R_ne h.b.sp h.g (by decide)), Kd.zbn h.n h.b.sp (by decide) hg, Kd.zbn h.f h.b.sp (by decide) hg⟩
theorem Bx.appOf (h : Bx w0 W g0 gc v4 ns v5 fs gb bc go vs va vo sp at_ of_) {x : Nat} {v v1 : Value} {ys : List Nat} {ok : Nat → Prop} (hv : vo[x]? = some v) (hR : kN.R 3 W1 w0.heap.size ok v1 ys) (hg : W.grownBy W1 v.ownBlock) (hat : v1.ownBlock = v.ownBlock ∨ ∃ b, v1.ownBlock = some b ∧ W.heap.size ≤ b) (hb : Below w0.heap.size w0 W1) : Bx w0 (W1.setCell ⟨go, x, none⟩ v1) g0 gc v4 ns v5 fs gb bc go vs va (vo.set x v1) sp at_ (of_.set x ys) := by
 obtain ⟨y, hy, hr⟩ := h.b.of_.at_ hv; have h1 := zas h.b.ob hg (Kd.R_ne hr h.b.ob (by decide))
 have h2 := zas h.g hg (Kd.R_ne hr h.g (by decide))
 exact ⟨h.b.appOf hv hR hg hat hb, zar h2 (p := ⟨go, x, none⟩) (blk_ne h2 h1 (by decide)) v1, Kd.zbp (Kd.zbn h.n hr (by decide) hg) h1 (by decide) x v1, Kd.zbp (Kd.zbn h.f hr (by decide) hg) h1 (by decide) x v1⟩
theorem Bx.setSp (h : Bx w0 W g0 gc v4 ns v5 fs gb bc go vs va vo sp at_ of_) {gs n cap : Nat} (hv : vs = .slice (some ⟨gs, 0, none⟩) n cap) (j : Nat) (x x' : S230) (hx : sp[j]? = some x) (f : Nat) (hf : f < 5) (u : Value) (hM : ∀ (W : World) (b : Nat) (ok : Nat → Prop) cs, k230.M W b ok x cs → k230.M W b ok x' (cs.set f u)) : Bx w0 (W.setCell ⟨gs, j * 5 + f, none⟩ u) g0 gc v4 ns v5 fs gb bc go vs va vo (sp.set j x') at_ of_ := by
 have h1 := h.b.setSp hv j x x' hx f hf u hM; subst hv; obtain ⟨cells, hc⟩ := Kd.R_typed h.b.sp gs rfl; exact ⟨h1, zar h.g (p := ⟨gs, _, none⟩) (blk_ne h.g hc (by decide)) u, Kd.zbp h.n hc (by decide) _ u, Kd.zbp h.f hc (by decide) _ u⟩
end
theorem m230_sym {W : World} {b : Nat} {ok : Nat → Prop} {cs : List Value} (x : S230) (y : Int) (h : k230.M W b ok x cs) : k230.M W b ok { x with f2 := y } (cs.set 2 (.int .i64 y)) := by
 rw [k230_openM h]; exact k230_mkM W b ok { x with f2 := y }
theorem m230_rest {W : World} {b : Nat} {ok : Nat → Prop} {cs : List Value} (x : S230) (y : Int) (h : k230.M W b ok x cs) : k230.M W b ok { x with f3 := y } (cs.set 3 (.int .u64 y)) := by
 rw [k230_openM h]; exact k230_mkM W b ok { x with f3 := y }
theorem m230_open {W : World} {b : Nat} {ok : Nat → Prop} {cs : List Value} (x : S230) (y : Bool) (h : k230.M W b ok x cs) : k230.M W b ok { x with f4 := y } (cs.set 4 (.bool y)) := by
 rw [k230_openM h]; exact k230_mkM W b ok { x with f4 := y }
theorem C_lit1 {α : Type} {k : Kd α} {W : World} {x : α} {cs : List Value} {b t : Nat} (hK : k.K W x cs) (hb : W.heap[b]? = some (.cells cs.toArray t (0, 0))) : k.C W (some ⟨b, 0, none⟩) 1 [x] := by
 refine ⟨rfl, by decide, fun _ => ⟨_, rfl, fun j p hj => ?_⟩⟩
 cases j with
 | zero =>
  simp at hj; subst hj; refine ⟨cs, k.K_len hK, hK, fun i u hu => ?_⟩
  rw [Addr.add_mid, zaa hb, List.getElem?_toArray, Nat.zero_mul, Nat.zero_add, Nat.zero_add]; exact hu
 | succ j => simp at hj
theorem atS_len : ∀ (ps : List S77) (n : Nat), (atS n ps).length = ps.length
 | [], _ => rfl
 | p :: ps, n => by
  unfold atS; rw [List.length_cons, List.length_cons, atS_len ps]
theorem info3 : (Tryd.prog.info? 3).map (fun i => (i.zero, i.size, i.bytes)) = some (some (.int .i64 0), 1, 8) := by kernel_rfl
theorem info230 : (Tryd.prog.info? 230).map (fun i => (i.zero, i.size, i.bytes)) = some (some (.agg #[.int .i64 0, .int .i64 0, .int .i64 0, .int .u64 0, .bool false]), 5, 40) := by kernel_rfl
theorem sp_at {W : World} {base g n cap : Nat} {ok : Nat → Prop} {sp : List S230} (h : k230.R 230 W base ok (.slice (some ⟨g, 0, none⟩) n cap) sp) {j : Nat} {x : S230} (hx : sp[j]? = some x) (f : Nat) : (∀ u, [Value.int .i64 x.f0, .int .i64 x.f1, .int .i64 x.f2, .int .u64 x.f3, .bool x.f4][f]? = some u → W.cell? ⟨g, j * 5 + f, none⟩ = some u) ∧ W.frozen? ⟨g, j * 5 + f, none⟩ = false := by
 obtain ⟨hj, hxe⟩ := List.getElem?_eq_some_iff.1 hx; obtain ⟨hn, _, _⟩ := Kd.zbh h; obtain ⟨c, hc, hM, hcell, hfr⟩ := Kd.R_elem h x (j : Int) (by omega) (by omega)
 rw [Int.toNat_natCast] at hM hcell hfr; rw [List.getD_eq_getElem?_getD, hx] at hM; rw [k230_openM hM] at hcell; exact ⟨fun u hu => hcell f u hu, hfr f⟩
theorem ofRow_len (x : Nat) : ∀ (ps : List S77) (n : Nat), (ofRow x n ps).length ≤ ps.length
 | [], _ => Nat.le_refl _
 | p :: ps, n => by
  unfold ofRow; have := ofRow_len x ps (n + p.f1.length + 1)
  split <;> simp only [List.length_cons] <;> omega
theorem none_cell {W : World} {base g q c : Nat} {ok : Nat → Prop} {V : List Bool} (h : Kd.bool.R 4 W base ok (.slice (some ⟨g, 0, none⟩) q c) (V.take q)) {n : Nat} (hn : n < q) : W.cell? ⟨g, n, none⟩ = some (.bool (van V n)) := by
 have h1 := (Kd.R_celln false h (n : Int) (Int.natCast_nonneg _) (by omega)).1
 rw [Int.toNat_natCast] at h1; rw [h1]; obtain ⟨hq, _⟩ := Kd.zbh h; rw [List.length_take] at hq; unfold van rdOf; rw [Int.toNat_natCast, List.getD_eq_getElem?_getD, List.getD_eq_getElem?_getD, List.getElem?_take, if_pos hn]
theorem begins_cell {W : World} {base g q c : Nat} {ok : Nat → Prop} {F : List Nat} (h : kU.R 128 W base ok (.slice (some ⟨g, 0, none⟩) q c) (F.take q)) {n : Nat} (hn : n < q) : W.cell? ⟨g, n, none⟩ = some (.int .u64 ((fst F n : Nat) : Int)) := by
 have h1 := (Kd.R_celln 0 h (n : Int) (Int.natCast_nonneg _) (by omega)).1
 rw [Int.toNat_natCast] at h1; rw [h1]; unfold fst rdOf; rw [Int.toNat_natCast, List.getD_eq_getElem?_getD, List.getD_eq_getElem?_getD, List.getElem?_take, if_pos hn]
theorem app_get {α : Type} {xs ys : List α} {n y : Nat} (h : xs.length = n) : (xs ++ ys)[n + y]? = ys[y]? := by rw [List.getElem?_append_right (by omega), show n + y - xs.length = y by omega]
theorem app_set {α : Type} {xs ys : List α} {n y : Nat} (h : xs.length = n) (a : α) : (xs ++ ys).set (n + y) a = xs ++ ys.set y a := by rw [List.set_append_right _ _ (by omega), show n + y - xs.length = y by omega]
theorem spot_t {F : List Nat} {V : List Bool} {i y nx fx rr : Nat} {oo : Bool} {row : List S110} {sy : Int} (hs : symAt row y = sy) (hl : lk F V (row.drop (y + 1)) = (if van V (nx : Int).toNat = true then fst F (nx : Int).toNat ||| rr else fst F (nx : Int).toNat, van V (nx : Int).toNat && oo)) (hv : van V nx = true) (hf : fst F nx = fx) : (⟨i, y, sy, ((fx ||| rr : Nat) : Int), oo⟩ : S230) = spotF F V i row y := by
 rw [Int.toNat_natCast, if_pos hv, hv, hf, Bool.true_and] at hl; unfold spotF; rw [hl, hs]
theorem spot_f {F : List Nat} {V : List Bool} {i y nx fx rr : Nat} {oo : Bool} {row : List S110} {sy : Int} (hs : symAt row y = sy) (hl : lk F V (row.drop (y + 1)) = (if van V (nx : Int).toNat = true then fst F (nx : Int).toNat ||| rr else fst F (nx : Int).toNat, van V (nx : Int).toNat && oo)) (hv : van V nx = false) (hf : fst F nx = fx) : (⟨i, y, sy, (fx : Int), false⟩ : S230) = spotF F V i row y := by
 rw [Int.toNat_natCast, if_neg (by rw [hv]; decide), hv, hf, Bool.false_and] at hl
 unfold spotF; rw [hl, hs]
theorem back_one (y : Nat) : ((y : Int) - 1 + 1).toNat = y := by omega
theorem back_lt (y : Nat) : ((y : Int) - 1 + 1).toNat < ((y : Int) + 1).toNat := by omega
theorem gateN_ {P : Program} {ops : Array Oper} {rest : List Oper} {o : Oper} {a : Act} {Q : Exit → Act → World → Prop} {W : World} (N : Nat) (_h : o.dst = some N) (h : wpList P ops Q (o :: rest) a W) : wpList P ops Q (o :: rest) a W := h
theorem made_one (z : Value) (n : Nat) : madeCells #[z] n = (List.replicate n z).toArray := by
 apply Array.ext
 ·simp [madeCells]
 ·intro i h1 h2; simp [madeCells, Nat.mod_one]
theorem ofAll_nil (M : Nat) : zbo M [] = List.replicate M [] := by
 unfold zbo ofRow; rw [List.map_const', List.length_range]
structure BookR (W : World) (gb : Nat) (A : Option Addr) (T c : Nat) (B : Option Addr) (M d : Nat) (slC va : Value) (As : Option Addr) (cs : Nat) (sp : List S230) (Ao : Option Addr) (co : Nat) (of_ : List (List Nat)) : Prop where
 bk : W.heap[gb]? = some (.cells #[.slice A T c, .slice B M d, slC, .slice As sp.length cs, va, .slice Ao of_.length co] 225 (0, 0))
 hsp : k230.C W As sp.length sp
 of_ : (Kd.slice 3 kN).C W Ao of_.length of_
 hcs : sp.length ≤ cs
theorem BookR.below {W W1 : World} {gb : Nat} {A : Option Addr} {T c : Nat} {B : Option Addr} {M d : Nat} {slC va : Value} {As : Option Addr} {cs : Nat} {sp : List S230} {Ao : Option Addr} {co : Nat} {of_ : List (List Nat)} (h : BookR W gb A T c B M d slC va As cs sp Ao co of_) (hb : Below W.heap.size W W1) : BookR W1 gb A T c B M d slC va As cs sp Ao co of_ :=
 ⟨zak h.bk hb, Kd.zav h.hsp hb, Kd.zav h.of_ hb, h.hcs⟩
def uvals (s : List Nat) : Array Value := (s.map fun n : Nat => Value.int .u64 (n : Int)).toArray
theorem uvals_get {s : List Nat} {n : Nat} (hn : n < s.length) : (uvals s)[n]? = some (.int .u64 ((fst s n : Nat) : Int)) := by
 unfold uvals fst; rw [List.getElem?_toArray, List.getElem?_map, List.getD_eq_getElem?_getD, List.getElem?_eq_getElem hn]; rfl
theorem uvals_set (s : List Nat) (n x : Nat) : (uvals s).setIfInBounds n (.int .u64 (x : Int)) = uvals (s.set n x) := by
 unfold uvals; rw [List.setIfInBounds_toArray, List.map_set]
structure Cl (w0 W : World) (bs bt sr N : Nat) (s : List Nat) (vt : Value) (todo : List Nat) : Prop where
 below : Below w0.heap.size w0 W
 hs : W.heap[bs]? = some (.cells #[.slice (some ⟨sr, 0, none⟩) N N] 169 (0, 0))
 ht : W.heap[bt]? = some (.cells #[vt] 95 (0, 0))
 hr : W.heap[sr]? = some (.cells (uvals s) 128 (0, 0))
 td : kN.R 3 W w0.heap.size tru vt todo
 ge : w0.heap.size ≤ bs ∧ w0.heap.size ≤ bt ∧ w0.heap.size ≤ sr
 len : s.length = N
 lt : ∀ x ∈ s, x < zbi
section
variable {w0 W W1 : World} {bs bt sr N : Nat} {s : List Nat} {vt : Value} {todo : List Nat}
theorem Cl.bel (h : Cl w0 W bs bt sr N s vt todo) (hb : Below W.heap.size W W1) : Cl w0 W1 bs bt sr N s vt todo :=
 ⟨zam h.below hb, zak h.hs hb, zak h.ht hb, zak h.hr hb, Kd.zbf h.td hb, h.ge, h.len, h.lt⟩
theorem Cl.alloc (h : Cl w0 W bs bt sr N s vt todo) (o : Obj) : Cl w0 (W.alloc o) bs bt sr N s vt todo := h.bel (zac (Below.refl _ _) o)
theorem Cl.drewN (h : Cl w0 W bs bt sr N s vt todo) (n : Nat) : Cl w0 (W.drewN n) bs bt sr N s vt todo := h.bel (zab (Below.refl _ _) n)
theorem Cl.drew (h : Cl w0 W bs bt sr N s vt todo) : Cl w0 W.drew bs bt sr N s vt todo := h.bel (zaw (Below.refl _ _))
theorem Cl.setS (h : Cl w0 W bs bt sr N s vt todo) (n x : Nat) (hx : x < zbi) : Cl w0 (W.setCell ⟨sr, n, none⟩ (.int .u64 (x : Int))) bs bt sr N (s.set n x) vt todo :=
 ⟨zaf h.below h.ge.2.2, zar h.hs (p := ⟨sr, n, none⟩) (blk_ne h.hs h.hr (by decide)) _, zar h.ht (p := ⟨sr, n, none⟩) (blk_ne h.ht h.hr (by decide)) _, zat h.hr n _ (uvals_set s n x), Kd.zbp h.td h.hr (by decide) n _, h.ge, by rw [List.length_set]; exact h.len, fun y hy => by
  rcases List.mem_or_eq_of_mem_set hy with hy | hy
  ·exact h.lt y hy
  ·rw [hy]; exact hx⟩
theorem Cl.setT (h : Cl w0 W bs bt sr N s vt todo) {v1 : Value} {ys : List Nat} (hR : kN.R 3 W1 w0.heap.size tru v1 ys) (hg : W.grownBy W1 vt.ownBlock) (hb : Below w0.heap.size w0 W1) : Cl w0 (W1.setCell ⟨bt, 0, none⟩ v1) bs bt sr N s v1 ys := by
 have h1 := zas h.hs hg (Kd.R_ne h.td h.hs (by decide))
 have h2 := zas h.ht hg (Kd.R_ne h.td h.ht (by decide))
 have h3 := zas h.hr hg (Kd.R_ne h.td h.hr (by decide))
 exact ⟨zaf hb h.ge.2.1, zar h1 (p := ⟨bt, 0, none⟩) (blk_ne h1 h2 (by decide)) _, zat h2 0 v1 rfl, zar h3 (p := ⟨bt, 0, none⟩) (blk_ne h3 h2 (by decide)) _, Kd.zbp hR h2 (by decide) 0 _, h.ge, h.len, h.lt⟩
theorem Cl.cut (h : Cl w0 W bs bt sr N s vt todo) {v1 : Value} {ys : List Nat} (hR : kN.R 3 W w0.heap.size tru v1 ys) : Cl w0 (W.setCell ⟨bt, 0, none⟩ v1) bs bt sr N s v1 ys :=
 ⟨zaf h.below h.ge.2.1, zar h.hs (p := ⟨bt, 0, none⟩) (blk_ne h.hs h.ht (by decide)) _, zat h.ht 0 v1 rfl, zar h.hr (p := ⟨bt, 0, none⟩) (blk_ne h.hr h.ht (by decide)) _, Kd.zbp hR h.ht (by decide) 0 _, h.ge, h.len, h.lt⟩
end
def putS (s : List Nat) (todo : List Nat) (n x : Nat) : List Nat × List Nat := if fst s n ||| x = fst s n then (s, todo) else (s.set n (fst s n ||| x), todo ++ [n])
def RetPut (w0 : World) (bs bt sr N : Nat) (s todo : List Nat) (e : Ending) (w' : World) : Prop := e = .returned (.tuple #[]) ∧ ∃ vt, Cl w0 w' bs bt sr N s vt todo
set_option maxRecDepth 100000 in
set_option maxHeartbeats 4000000 in
theorem put_any (w0 : World) (bs bt sr N : Nat) (s : List Nat) (vt : Value) (todo : List Nat) (w : World) (n x : Nat) (hc : Cl w0 w bs bt sr N s vt todo) (hn : n < N) (hx : x < zbi) (hN : N ≤ 1048576) (hl : todo.length ≤ 134217728) :
  Calls Tryd.prog 98 #[.int .i64 (n : Int), .int .u64 (x : Int), .pointer (some ⟨bs, 0, none⟩), .pointer (some ⟨bt, 0, none⟩)] w (RetPut w0 bs bt sr N (putS s todo n x).1 (putS s todo n x).2) := by
 have HC := Lib.hid hc; have c0 := zaa hc.hs 0; have c1 := zaa hc.hr n; have c1f := zae hc.hr n; rw [uvals_get (by rw [hc.len]; exact hn)] at c1
 simp at c0; have n0 : (0 : Int) ≤ (n : Int) := Int.natCast_nonneg _; have n1 : (n : Int) < (N : Int) := by omega
 have hor : bits .or .u64 ((fst s n : Nat) : Int) (x : Int) = ((fst s n ||| x : Nat) : Int) := u64_or_nat _ _ (fst_lt hc.lt n) hx; obtain ⟨At, ct, rfl, hct, -⟩ := Kd.zbb hc.td; have HHX := Lib.hid hx; have HLT := Lib.hid (fst_lt hc.lt n); clear hc hx; by_cases hp : fst s n ||| x = fst s n
 ·have hne : ((((fst s n ||| x : Nat)) : Int) != ((fst s n : Nat) : Int)) = false := by rw [hp]; simp
  have HP := Lib.hid hp; generalize ha : fst s n = a at *; generalize hbx : a ||| x = b at *; have HA := Lib.hid ha; have HBX := Lib.hid hbx; clear hp ha hbx
  go_enter Tryd.func98, Tryd.ntmps98
  go_wp2_with fail
  go_quiet (fail)
  go_wp2_with fail
  refine bodyPost_end (results_none rfl _ _ _) rfl ⟨rfl, .slice At todo.length ct, ?_⟩; have e : putS s todo n x = (s, todo) := by unfold putS; rw [if_pos (by rw [HA.out, HBX.out]; exact HP.out)]
  rw [e]; exact HC.out.drewN _
 ·have hne : ((((fst s n ||| x : Nat)) : Int) != ((fst s n : Nat) : Int)) = true := by
   rw [bne_iff_ne]; intro h; exact hp (by omega)
  have hbl := or_lt HLT.out HHX.out; have hbo : (todo.length + 1) * 8 ≤ 140737488355328 := by omega
  have e : putS s todo n x = (s.set n (fst s n ||| x), todo ++ [n]) := by unfold putS; rw [if_neg hp]
  have HE := Lib.hid e; have HBL := Lib.hid hbl; clear e hp hbl HHX HLT; rw [HE.out]; generalize fst s n ||| x = b at *; generalize fst s n = a at *
  go_enter Tryd.func98, Tryd.ntmps98
  go_wp2_with fail
  go_quiet (fail)
  go_wp2_with ((with_reducible refine gate_ (.load 95 (.tmp 3)) rfl ?_); refine Hid.out ?_)
  refine Lib.hid ?_; have HC2 := Lib.hid ((HC.out.drewN nq).setS n b HBL.out); clear HC c0 c1 c1f hne hor; generalize (w.drewN nq).setCell ⟨sr, n, none⟩ (.int .u64 (b : Int)) = W1 at *; have t0 := zaa HC2.out.ht 0; simp at t0; have HC3 := Lib.hid (HC2.out.alloc (.cells #[.int .i64 (n : Int)] 3)); have HL := Lib.hid (C_lit1 (k := kN) (x := n) (cs := [.int .i64 (n : Int)]) rfl (zau W1 (.cells #[.int .i64 (n : Int)] 3)))
  go_wp2_with ((with_reducible refine zay (b := .append) (xs := #[.tmp 24, .tmp 26]) rfl ?_); refine Hid.out ?_)
  refine Lib.hid ?_
  at_builtin
  refine Kd.zbj kN (w0 := w0) w0.heap.size rfl (.tmp 24) (.tmp 26) 95 3 (.int .i64 0) 8 rfl Tryd.underlying95 info3 rfl (by decide) (by decide) _ todo [n] (some ⟨_, 0, none⟩) 1 1 tru (fun _ => False) rfl rfl HC3.out.td HL.out (fun _ _ h => h) (fun _ h => h.elim) (fun _ _ => trivial) HC3.out.below HC3.out.below.size hbo ?_
  intro v1 w1 ho1 hb1 hg1 hat1; have HC4 := Lib.hid (HC3.out.setT ho1 hg1 hb1); have t1 := zaa (zas HC3.out.ht hg1 (Kd.R_ne HC3.out.td HC3.out.ht (by decide))) 0
  have t1f := zae (zas HC3.out.ht hg1 (Kd.R_ne HC3.out.td HC3.out.ht (by decide))) 0
  simp at t1; obtain ⟨A1, c1, hv1, -, -⟩ := Kd.zbb ho1; generalize hn1 : (todo ++ [n]).length = n1 at hv1; subst hv1; clear hn1 ho1 hb1 hg1 hat1 HC2 HC3 HL t0
  go_wp2_with fail
  refine bodyPost_end (results_none rfl _ _ _) rfl ⟨rfl, .slice A1 n1 c1, ?_⟩; exact HC4.out
end Bld
end Go.Proofs.YtcijanmckhlpiaaDoor
namespace Go.Proofs.YtcijanmckhlpiaaDoor
open Go.RowKit Go.Proofs.YtcijanmckhlpiaaDoorW.PrintWords Go.Proofs.YtcijanmckhlpiaaDoor.PTableBuilds
namespace Bld
def nbits (x : Nat) : Nat := (List.range 64).countP (fun i => x.testBit i)
theorem countP_le {p q : Nat → Bool} (h : ∀ i, p i = true → q i = true) : ∀ l : List Nat, l.countP p ≤ l.countP q
 | [] => Nat.le_refl _
 | i :: l => by
  have := countP_le h l; rw [List.countP_cons, List.countP_cons]; by_cases hp : p i = true
  ·rw [if_pos hp, if_pos (h i hp)]; omega
  ·rw [if_neg hp]; omega
theorem countP_lt {p q : Nat → Bool} (h : ∀ i, p i = true → q i = true) : ∀ (l : List Nat) (j : Nat), j ∈ l → p j = false → q j = true → l.countP p + 1 ≤ l.countP q
 | i :: l, j, hj, hp, hq => by
  rw [List.countP_cons, List.countP_cons]; rcases List.mem_cons.1 hj with rfl | hj
  ·rw [if_neg (by rw [hp]; decide), if_pos hq]
   have := countP_le h l; omega
  ·have := countP_lt h l j hj hp hq; by_cases hp : p i = true
   ·rw [if_pos hp, if_pos (h i hp)]; omega
   ·rw [if_neg hp]; omega
theorem nbits_le (x : Nat) : nbits x ≤ 64 := by
 have := List.countP_le_length (p := fun i => x.testBit i) (l := List.range 64)
 rw [List.length_range] at this; exact this
theorem nbits_lt {a b : Nat} (hb : a ||| b < zbi) (hne : a ||| b ≠ a) : nbits a + 1 ≤ nbits (a ||| b) := by
 have ha : a < zbi := Nat.lt_of_le_of_lt Nat.left_le_or hb; obtain ⟨j, hj⟩ : ∃ j, (a ||| b).testBit j ≠ a.testBit j := by
  apply Classical.byContradiction; intro h; apply hne; apply Nat.eq_of_testBit_eq; intro i; apply Classical.byContradiction; intro h2; exact h ⟨i, h2⟩
 have h1 : a.testBit j = false := by
  cases h : a.testBit j with
  | false => rfl
  | true => exact absurd (by rw [Nat.testBit_or, h]; rfl) hj
 have h2 : (a ||| b).testBit j = true := by
  cases h : (a ||| b).testBit j with
  | true => rfl
  | false => rw [h, h1] at hj; exact absurd rfl hj
 have hj64 : j < 64 := by
  apply Classical.byContradiction; intro h; have : (a ||| b) < 2 ^ j := Nat.lt_of_lt_of_le hb (Nat.pow_le_pow_right (n := 2) (by decide) (show 64 ≤ j by omega))
  rw [Nat.testBit_lt_two_pow this] at h2; cases h2
 exact countP_lt (fun i hi => by rw [Nat.testBit_or, hi]; rfl) _ j (List.mem_range.2 hj64) h1 h2
def room (s : List Nat) : Nat := (s.map fun x => 64 - nbits x).sum
theorem room_le : ∀ s : List Nat, room s ≤ 64 * s.length
 | [] => Nat.le_refl _
 | x :: s => by
  have := room_le s; simp only [room, List.map_cons, List.sum_cons, List.length_cons] at this ⊢; omega
theorem room_set : ∀ (s : List Nat) (n y : Nat), n < s.length → room (s.set n y) + (64 - nbits (fst s n)) = room s + (64 - nbits y)
 | x :: s, 0, y, _ => by simp only [List.set_cons_zero, room, List.map_cons, List.sum_cons, fst, List.getD_cons_zero]; omega
 | x :: s, n + 1, y, h => by
  have := room_set s n y (by simpa using h)
  simp only [List.set_cons_succ, room, List.map_cons, List.sum_cons, fst, List.getD_cons_succ] at this ⊢; omega
theorem putS_pot {s todo : List Nat} {n x : Nat} (hn : n < s.length) (hs : ∀ y ∈ s, y < zbi) (hx : x < zbi) : (putS s todo n x).2.length + room (putS s todo n x).1 ≤ todo.length + room s := by
 unfold putS
 split
 ·exact Nat.le_refl _
 ·rename_i h
  have h1 := nbits_lt (or_lt (fst_lt hs n) hx) h; have h2 := room_set s n (fst s n ||| x) hn; have h3 := nbits_le (fst s n ||| x); simp only [List.length_append, List.length_singleton]; omega
structure Pot (N : Nat) (st : List Nat × List Nat) : Prop where
 len : st.1.length = N
 lt : ∀ y ∈ st.1, y < zbi
 td : ∀ y ∈ st.2, y < N
 pot : st.2.length + room st.1 ≤ 64 * N
theorem Pot.put {N : Nat} {st : List Nat × List Nat} (h : Pot N st) {n x : Nat} (hn : n < N) (hx : x < zbi) : Pot N (putS st.1 st.2 n x) := by
 have hp := putS_pot (todo := st.2) (n := n) (x := x) (by rw [h.len]; exact hn) h.lt hx
 refine ⟨?_, ?_, ?_, Nat.le_trans hp h.pot⟩
 ·unfold putS; split
  ·exact h.len
  ·rw [List.length_set]; exact h.len
 ·unfold putS; split
  ·exact h.lt
  ·intro y hy; rcases List.mem_or_eq_of_mem_set hy with hy | hy
   ·exact h.lt y hy
   ·rw [hy]; exact or_lt (fst_lt h.lt n) hx
 ·unfold putS; split
  ·exact h.td
  ·intro y hy; rcases List.mem_append.1 hy with hy | hy
   ·exact h.td y hy
   ·rw [List.mem_singleton.1 hy]; exact hn
theorem Pot.init (N : Nat) : Pot N (List.replicate N 0, []) := ⟨List.length_replicate, fun y hy => by rw [(List.mem_replicate.1 hy).2]; decide, fun y hy => (by cases hy), (by
  have := room_le (List.replicate N 0); rw [List.length_replicate] at this
  simpa using this)⟩
theorem Pot.pop {N : Nat} {s todo : List Nat} (h : Pot N (s, todo)) : Pot N (s, todo.dropLast) := ⟨h.len, h.lt, fun y hy => h.td y (List.mem_of_mem_take (List.dropLast_eq_take ▸ hy)), (by
  have := h.pot; simp only [List.length_dropLast] at this ⊢; omega)⟩
theorem Pot.todo {N : Nat} {st : List Nat × List Nat} (h : Pot N st) : st.2.length ≤ 64 * N := by have := h.pot; omega
def putsS (l : List Nat) (x : Nat) (st : List Nat × List Nat) : List Nat × List Nat := l.foldl (fun st m => putS st.1 st.2 m x) st
def marksS (l : List S166) (st : List Nat × List Nat) : List Nat × List Nat := l.foldl (fun st m => putS st.1 st.2 m.f0.toNat m.f1.toNat) st
def rdSp (sp : List S230) (n : Nat) : S230 := sp.getD n ⟨0, 0, 0, 0, false⟩
def rdOfs (of_ : List (List Nat)) (n : Nat) : List Nat := of_.getD n []
def looksS (sp : List S230) (s : List Nat) (n : Nat) : Nat := if (rdSp sp n).f4 = true then (rdSp sp n).f3.toNat ||| fst s n else (rdSp sp n).f3.toNat
def closeN (T : Nat) (sp : List S230) (of_ : List (List Nat)) : Nat → List Nat × List Nat → Option (List Nat)
 | 0, _ => none
 | k + 1, st => match st.2.getLast? with
  | none => some st.1
  | some n => if (rdSp sp n).f2 < (T : Int) then closeN T sp of_ k (st.1, st.2.dropLast) else closeN T sp of_ k (putsS (rdOfs of_ ((rdSp sp n).f2 - T).toNat) (looksS sp st.1 n) (st.1, st.2.dropLast))
structure FitB (T M : Nat) (sp : List S230) (of_ : List (List Nat)) : Prop where
 n20 : sp.length ≤ 1048576
 rest : ∀ x ∈ sp, 0 ≤ x.f3 ∧ x.f3 < 18446744073709551616
 sym : ∀ x ∈ sp, -1 ≤ x.f2 ∧ x.f2 < (T : Int) + M
 mlen : of_.length = M
 starts : ∀ l ∈ of_, l.length ≤ 1048576 ∧ ∀ n ∈ l, n < sp.length
theorem rdSp_mem {sp : List S230} {n : Nat} (hn : n < sp.length) : rdSp sp n ∈ sp := by
 unfold rdSp; rw [List.getD_eq_getElem?_getD, List.getElem?_eq_getElem hn]; exact List.getElem_mem _
theorem rdOfs_mem {of_ : List (List Nat)} {n : Nat} (hn : n < of_.length) : rdOfs of_ n ∈ of_ := by
 unfold rdOfs; rw [List.getD_eq_getElem?_getD, List.getElem?_eq_getElem hn]; exact List.getElem_mem _
theorem FitB.looks_lt {T M : Nat} {sp : List S230} {of_ : List (List Nat)} (h : FitB T M sp of_) {s : List Nat} (hs : ∀ y ∈ s, y < zbi) {n : Nat} (hn : n < sp.length) : looksS sp s n < zbi := by
 have h1 := h.rest _ (rdSp_mem hn); have h2 : (rdSp sp n).f3.toNat < zbi := by unfold zbi; omega
 unfold looksS
 split
 ·exact or_lt h2 (fst_lt hs n)
 ·exact h2
theorem Pot.puts {N : Nat} {x : Nat} (hx : x < zbi) : ∀ (l : List Nat) (st : List Nat × List Nat), Pot N st → (∀ n ∈ l, n < N) → Pot N (putsS l x st)
 | [], st, h, _ => h
 | n :: l, st, h, hl => Pot.puts hx l _ (h.put (hl n (by simp)) hx) (fun m hm => hl m (by simp [hm]))
end Bld
end Go.Proofs.YtcijanmckhlpiaaDoor
