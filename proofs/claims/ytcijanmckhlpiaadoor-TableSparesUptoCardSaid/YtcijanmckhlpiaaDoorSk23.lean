-- Texts of this seat, cut to what is used and merged (by shake.py).
import Derived.Test.YtcijanmckhlpiaaDoorSk21
import Derived.Test.YtcijanmckhlpiaaDoorSk22
set_option linter.unusedVariables false
set_option linter.unusedSimpArgs false
namespace Go.Proofs.YtcijanmckhlpiaaDoor
open Go.RowKit Go.Proofs.YtcijanmckhlpiaaDoorW.PrintWords Go.Proofs.YtcijanmckhlpiaaDoorW.PrintLast Go.Proofs.YtcijanmckhlpiaaDoorW.PrintMore
namespace Spr
open Bld (HD hdr kH kInt BR TRows bldR RetBuild TbOwn cvA)
open Apt
inductive Chain (W : World) : Nat → Nat → List (HD × HD) → List (List HD) → List (List HD) → Prop
 | nil (lo hi : Nat) : Chain W lo hi [] [] []
 | cons {lo hi lo2 hi2 : Nat} {t : HD × HD} {hA hG : List HD} {ts : List (HD × HD)} {hAs hGs : List (List HD)} (h : Tb lo hi W (hdr t.1) (hdr t.2) hA hG) (hc : Chain W lo2 hi2 ts hAs hGs) (h1 : hi ≤ lo2) (h2 : lo ≤ lo2) (h3 : hi ≤ hi2) : Chain W lo hi2 (t :: ts) (hA :: hAs) (hG :: hGs)
structure ChainSays (W : World) (lo hi : Nat) (ts : List (HD × HD)) (hAs hGs : List (List HD)) : Prop where
 aA : Acc 93 2 lo hi W hAs.flatten
 aG : Acc 3 1 lo hi W hGs.flatten
 lA : hAs.length = ts.length
 lG : hGs.length = ts.length
 mA : hAs.flatten.length ≤ 2048 * ts.length
 mG : hGs.flatten.length ≤ 2048 * ts.length
 bA : ∀ h ∈ hAs.flatten, h.2.1 ≤ 4194304
 bG : ∀ h ∈ hGs.flatten, h.2.1 ≤ 4194304
 cA : ∀ (i : Nat) (t : HD × HD) (hs : List HD), ts[i]? = some t → hAs[i]? = some hs → kH.C W t.1.1 t.1.2.1 hs
 cG : ∀ (i : Nat) (t : HD × HD) (hs : List HD), ts[i]? = some t → hGs[i]? = some hs → kH.C W t.2.1 t.2.2.1 hs
theorem C_of_R {W : World} {o B : Nat} {x : HD} {hs : List HD} (h : kH.R o W B Bld.tru (hdr x) hs) : kH.C W x.1 x.2.1 hs := by
 obtain ⟨a, b, c⟩ := Kd.zbo (A := x.1) (n := x.2.1) (c := x.2.2) h; rw [a]; exact c
theorem Chain.says {W : World} {lo hi : Nat} {ts : List (HD × HD)} {hAs hGs : List (List HD)} (h : Chain W lo hi ts hAs hGs) : ChainSays W lo hi ts hAs hGs := by
 induction h with
 | nil lo hi => exact ⟨Acc.none, Acc.none, rfl, rfl, Nat.zero_le _, Nat.zero_le _, fun h hh => by simp at hh, fun h hh => by simp at hh, fun i t hs h => by simp at h, fun i t hs h => by simp at h⟩
 | cons h hc h1 h2 h3 ih =>
  refine ⟨?_, ?_, by simp [ih.lA], by simp [ih.lG], ?_, ?_, ?_, ?_, ?_, ?_⟩
  ·rw [List.flatten_cons]; exact h.aA.cons ih.aA h1 h2 h3
  ·rw [List.flatten_cons]; exact h.aG.cons ih.aG h1 h2 h3
  ·rw [List.flatten_cons, List.length_append, List.length_cons]; have := h.lA; have := ih.mA; omega
  ·rw [List.flatten_cons, List.length_append, List.length_cons]; have := h.lG; have := ih.mG; omega
  ·intro x hx; rw [List.flatten_cons] at hx; rcases List.mem_append.1 hx with hx | hx
   ·exact h.bA x hx
   ·exact ih.bA x hx
  ·intro x hx; rw [List.flatten_cons] at hx; rcases List.mem_append.1 hx with hx | hx
   ·exact h.bG x hx
   ·exact ih.bG x hx
  ·intro i t hs ht hh; cases i with
   | zero =>
    simp only [List.getElem?_cons_zero, Option.some.injEq] at ht hh; subst ht hh; exact C_of_R h.A
   | succ i =>
    simp only [List.getElem?_cons_succ] at ht hh; exact ih.cA i t hs ht hh
  ·intro i t hs ht hh; cases i with
   | zero =>
    simp only [List.getElem?_cons_zero, Option.some.injEq] at ht hh; subst ht hh; exact C_of_R h.G
   | succ i =>
    simp only [List.getElem?_cons_succ] at ht hh; exact ih.cG i t hs ht hh
structure Keeps (lo hi : Nat) (W W' : World) : Prop where
 os : W'.os = W.os
 tape : W'.tape = W.tape
 output : W'.output = W.output
 size : W.heap.size ≤ W'.heap.size
 block : ∀ k, k < W.heap.size → (k < lo ∨ hi ≤ k) → W'.heap[k]? = W.heap[k]?
theorem Keeps.below {B lo hi : Nat} {w W W' : World} (h : Keeps lo hi W W') (hb : Below B w W) (h1 : B ≤ lo) (h2 : B ≤ W.heap.size) : Below B w W' :=
 ⟨h.os.trans hb.os, h.tape.trans hb.tape, h.output.trans hb.output, Nat.le_trans hb.size h.size, fun k hk => (h.block k (Nat.lt_of_lt_of_le hk h2) (.inl (Nat.lt_of_lt_of_le hk h1))).trans (hb.block k hk)⟩
theorem apart_chain {W : World} {lo hi bL cL : Nat} {ts : List (HD × HD)} {hAs hGs : List (List HD)} (hc : Chain W lo hi ts hAs hGs) (hcells : W.heap[bL]? = some (.cells (tcells ts).toArray 25 (0, 0))) (hn : ts.length ≤ 400) (hb0 : lo ≤ W.heap.size) :
  Calls Tryd.prog 27 #[.slice (some ⟨bL, 0, none⟩) ts.length cL] W fun e w' => e = .returned (.bool true) ∧ Keeps lo hi W w' := by
 have s := hc.says; obtain ⟨xA, rA⟩ := s.aA.rw; obtain ⟨xG, rG⟩ := s.aG.rw; refine (apart_any lo bL cL ts hAs hGs W hcells s.lA s.lG s.cA s.cG xA xG rA rG s.aA.ap s.aG.ap (by have := s.mA; omega) (by have := s.mG; omega) (by omega) s.bA s.bG hb0).mono ?_
 rintro e w' ⟨he, h1, h2, h3, h4, h5⟩; refine ⟨he, h1, h2, h3, h4, fun k hk hlh => h5 k hk (fun j h hj e => ?_) (fun j h hj e => ?_)⟩
 ·have a := s.aA.lt j h k hj e; have b := (s.aA.ge hj e).1; omega
 ·have a := s.aG.lt j h k hj e; have b := (s.aG.ge hj e).1; omega
end Spr
end Go.Proofs.YtcijanmckhlpiaaDoor
namespace Go.Proofs.YtcijanmckhlpiaaDoor
open Go.RowKit Go.Proofs.YtcijanmckhlpiaaDoorW.PrintWords Go.Proofs.YtcijanmckhlpiaaDoorW.PrintLast Go.Proofs.YtcijanmckhlpiaaDoorW.PrintMore Go.Proofs.YtcijanmckhlpiaaDoor.PTableBuilds
namespace Spr
open Bld (dots dots_cons dots_snoc GR tru)
theorem heap110 : Kd.Heap k110 := Kd.heap_iso _ (Kd.heap_pair (Kd.heap_int .i64) (Kd.heap_pair Kd.heap_string Kd.heap_string))
theorem gr_rhs {w W : World} {A : Option Addr} {c : Nat} {l : List S112} {B : Option Addr} {d : Nat} {m : List S115} {C : Option Addr} {e : Nat} {ps : List S77} (hg : GR w A c l B d m C e ps) (hb : Below w.heap.size w W) {i : Nat} (hi : i < ps.length) :
  ∃ ad A1 c1, C = some ad ∧ W.cell? ⟨(ad.add (i * 2)).block, (ad.add (i * 2)).off + 1, none⟩ = some (.slice A1 (zao ps (i : Int)).f1.length c1) ∧ (zao ps (i : Int)).f1.length ≤ c1 ∧ Kd.F k110 W (fun k => k < w.heap.size) A1 (zao ps (i : Int)).f1.length (zao ps (i : Int)).f1 := by
 obtain ⟨ad, A1, c1, e1, -, e3, e4, e5⟩ := at_T77 hg.hC (i : Int) (by omega) (by omega)
 refine ⟨ad, A1, c1, e1, ?_, e4, Kd.F_step (Kd.C_F heap110 e5) (fun k hk _ => hb.block k hk)⟩
 rw [Int.toNat_natCast] at e3; exact zat hb e3
structure Mn (B0 : Nat) (W : World) (gm : Nat) (A : Option Addr) (c : Nat) (l : List S112) (B : Option Addr) (d : Nat) (m : List S115) (P : Option Addr) (cp n : Nat) (qs : List S77) : Prop where
 box : W.heap[gm]? = some (.cells #[.slice A l.length c, .slice B m.length d, .slice P n cp] 51 (0, 0))
 hA : k112.R 112 W B0 tru (.slice A l.length c) l
 hB : k115.R 115 W B0 tru (.slice B m.length d) m
 hP : Kd.N k77 77 W B0 tru (.slice P n cp) qs
 ge : B0 ≤ gm
section
variable {B0 : Nat} {w W W' : World} {gm : Nat} {A : Option Addr} {c : Nat} {l : List S112} {B : Option Addr} {d : Nat} {m : List S115} {P : Option Addr} {cp n : Nat} {qs : List S77}
theorem Mn.below (H : Mn B0 W gm A c l B d m P cp n qs) (hb : Below W.heap.size W W') : Mn B0 W' gm A c l B d m P cp n qs :=
 ⟨zal H.box hb, Kd.zbi H.hA hb, Kd.zbi H.hB hb, Kd.N_below H.hP hb, H.ge⟩
theorem Mn.drew (H : Mn B0 W gm A c l B d m P cp n qs) : Mn B0 W.drew gm A c l B d m P cp n qs := H.below (zbl (Below.refl _ _))
theorem Mn.drewN (H : Mn B0 W gm A c l B d m P cp n qs) (k : Nat) : Mn B0 (W.drewN k) gm A c l B d m P cp n qs := H.below (zaa (Below.refl _ _) k)
theorem Mn.len (H : Mn B0 W gm A c l B d m P cp n qs) : n = qs.length := (Kd.N_reads' H.hP).1
theorem Mn.gr (H : Mn B0 W gm A c l B d m P cp n qs) : GR W A c l B d m P cp qs := by
 obtain ⟨-, a2, a3⟩ := Kd.zbo H.hA; obtain ⟨-, b2, b3⟩ := Kd.zbo H.hB; obtain ⟨e, c2, c3⟩ := Kd.N_reads' H.hP; exact ⟨a3, a2, b3, b2, c3, by omega⟩
theorem Mn.at_ (H : Mn B0 W gm A c l B d m P cp n qs) {i : Nat} (hi : i < n) : ∃ gp, P = some ⟨gp, 0, none⟩ ∧ B0 ≤ gp ∧ ∃ A1 c1, W.cell? ⟨gp, i * 2, none⟩ = some (.int .i64 (zao qs (i : Int)).f0) ∧ W.cell? ⟨gp, i * 2 + 1, none⟩ = some (.slice A1 (zao qs (i : Int)).f1.length c1) ∧ W.frozen? ⟨gp, i * 2 + 1, none⟩ = false := by
 have hl := H.len; obtain ⟨gp, cap, he, hge, -, -⟩ := Kd.N_form H.hP (by omega)
 injection he with e1 e2 e3; subst e1 e3; refine ⟨gp, rfl, hge, ?_⟩; obtain ⟨cs, hcl, hK, hcc, hfr⟩ := Kd.N_elem H.hP z77 (i : Int) (by omega) (by omega)
 obtain ⟨A1, c1, rfl, -, -⟩ := k77_openF hK; have h0 := hcc 0 _ rfl; have h1 := hcc 1 _ rfl; have h2 := hfr 1; rw [Int.toNat_natCast] at h0 h1 h2; exact ⟨A1, c1, h0, h1, h2⟩
theorem Mn.put {gp : Nat} (H : Mn B0 W gm A c l B d m (some ⟨gp, 0, none⟩) cp n qs) {i : Nat} (hi : i < n) {row : List S110} {A1 : Option Addr} {c1 : Nat} (hl : row.length ≤ c1) (hF : Kd.F k110 W (fun k => k < B0) A1 row.length row) :
  Mn B0 (W.setCell ⟨gp, i * 2 + 1, none⟩ (.slice A1 row.length c1)) gm A c l B d m (some ⟨gp, 0, none⟩) cp n (qs.set i ⟨(zao qs (i : Int)).f0, row⟩) := by
 obtain ⟨cs, hcl, hK, hcc, hfr⟩ := Kd.N_elem H.hP z77 (i : Int) (by omega) (by omega)
 have hge : B0 ≤ gp := Kd.N_base H.hP gp rfl; obtain ⟨cells, hcb⟩ := Kd.N_typed H.hP gp rfl; obtain ⟨A2, c2, rfl, -, -⟩ := k77_openF hK; have hs := Kd.N_seg H.hP (i : Int) (by omega) (by omega) (c := [.int .i64 (zao qs (i : Int)).f0, .slice A2 (zao qs (i : Int)).f1.length c2]) (seg := [.slice A1 row.length c1]) (j := 1) (x' := ⟨(zao qs (i : Int)).f0, row⟩) (okp := fun k => k < B0) hcl hcc (Nat.le_refl _) (k77_mkF W _ ⟨(zao qs (i : Int)).f0, row⟩ hl hF) (fun k hk => ⟨trivial, by omega⟩)
 rw [Int.toNat_natCast] at hs; have e : W.setCells gp (i * k77.sz + 1) [.slice A1 row.length c1] = W.setCell ⟨gp, i * 2 + 1, none⟩ (.slice A1 row.length c1) := rfl; rw [e] at hs; refine ⟨zas H.box hs.2 (fun he => ?_), Kd.R_set H.hA hcb (by decide) _ _, Kd.R_set H.hB hcb (by decide) _ _, hs.1, H.ge⟩
 injection he with he; have h1 := H.box; rw [he, hcb] at h1; injection h1 with h1; injection h1 with _ h1 _; exact absurd h1 (by decide)
end
set_option maxRecDepth 100000 in
theorem apart_six {V : World} {lo1 b1 c1 d1 : Nat} {A1 B1 : Option Addr} {lo2 b2 c2 d2 : Nat} {A2 B2 : Option Addr} {lo3 b3 c3 d3 : Nat} {A3 B3 : Option Addr} {lo4 b4 c4 d4 : Nat} {A4 B4 : Option Addr} {lo5 b5 c5 d5 : Nat} {A5 B5 : Option Addr} {lo6 b6 c6 d6 : Nat} {A6 B6 : Option Addr} {r1 r2 : BRows} {g1 g2 : List (List Int)} (h1 : Tv lo1 b1 V b1 A1 c1 B1 d1 r1 g1) (h2 : Tv lo2 b2 V b2 A2 c2 B2 d2 r1 g1) (h3 : Tv lo3 b3 V b3 A3 c3 B3 d3 r1 g1) (h4 : Tv lo4 b4 V b4 A4 c4 B4 d4 r2 g2) (h5 : Tv lo5 b5 V b5 A5 c5 B5 d5 r2 g2) (h6 : Tv lo6 b6 V b6 A6 c6 B6 d6 r2 g2) (o2 : b1 < lo2) (o3 : b2 < lo3) (o4 : b3 < lo4) (o5 : b4 < lo5) (o6 : b5 < lo6) (m1 : lo1 ≤ b1) (m2 : lo2 ≤ b2) (m3 : lo3 ≤ b3) (m4 : lo4 ≤ b4) (m5 : lo5 ≤ b5) (m6 : lo6 ≤ b6) :
  Calls Tryd.prog 27 #[.slice (some ⟨V.heap.size, 0, none⟩) 6 6] (V.alloc (.cells #[.slice A1 r1.length c1, .slice B1 g1.length d1, .slice A2 r1.length c2, .slice B2 g1.length d2, .slice A3 r1.length c3, .slice B3 g1.length d3, .slice A4 r2.length c4, .slice B4 g2.length d4, .slice A5 r2.length c5, .slice B5 g2.length d5, .slice A6 r2.length c6, .slice B6 g2.length d6] 25)) fun e w' => e = .returned (.bool true) ∧ Keeps lo1 b6 (V.alloc (.cells #[.slice A1 r1.length c1, .slice B1 g1.length d1, .slice A2 r1.length c2, .slice B2 g1.length d2, .slice A3 r1.length c3, .slice B3 g1.length d3, .slice A4 r2.length c4, .slice B4 g2.length d4, .slice A5 r2.length c5, .slice B5 g2.length d5, .slice A6 r2.length c6, .slice B6 g2.length d6] 25)) w' := by
 have hbs := zab (Below.refl V.heap.size V) (.cells #[.slice A1 r1.length c1, .slice B1 g1.length d1, .slice A2 r1.length c2, .slice B2 g1.length d2, .slice A3 r1.length c3, .slice B3 g1.length d3, .slice A4 r2.length c4, .slice B4 g2.length d4, .slice A5 r2.length c5, .slice B5 g2.length d5, .slice A6 r2.length c6, .slice B6 g2.length d6] 25); obtain ⟨hA1, hG1, t1⟩ := (h1.below hbs).tb; obtain ⟨hA2, hG2, t2⟩ := (h2.below hbs).tb; obtain ⟨hA3, hG3, t3⟩ := (h3.below hbs).tb; obtain ⟨hA4, hG4, t4⟩ := (h4.below hbs).tb; obtain ⟨hA5, hG5, t5⟩ := (h5.below hbs).tb; obtain ⟨hA6, hG6, t6⟩ := (h6.below hbs).tb; have hlo : lo1 ≤ (V.alloc (.cells #[.slice A1 r1.length c1, .slice B1 g1.length d1, .slice A2 r1.length c2, .slice B2 g1.length d2, .slice A3 r1.length c3, .slice B3 g1.length d3, .slice A4 r2.length c4, .slice B4 g2.length d4, .slice A5 r2.length c5, .slice B5 g2.length d5, .slice A6 r2.length c6, .slice B6 g2.length d6] 25)).heap.size := by
  have := zau h1.box; have := hbs.size; omega
 have hch : Chain (V.alloc (.cells #[.slice A1 r1.length c1, .slice B1 g1.length d1, .slice A2 r1.length c2, .slice B2 g1.length d2, .slice A3 r1.length c3, .slice B3 g1.length d3, .slice A4 r2.length c4, .slice B4 g2.length d4, .slice A5 r2.length c5, .slice B5 g2.length d5, .slice A6 r2.length c6, .slice B6 g2.length d6] 25)) lo1 b6 [((A1, r1.length, c1), (B1, g1.length, d1)), ((A2, r1.length, c2), (B2, g1.length, d2)), ((A3, r1.length, c3), (B3, g1.length, d3)), ((A4, r2.length, c4), (B4, g2.length, d4)), ((A5, r2.length, c5), (B5, g2.length, d5)), ((A6, r2.length, c6), (B6, g2.length, d6))] [hA1, hA2, hA3, hA4, hA5, hA6] [hG1, hG2, hG3, hG4, hG5, hG6] := (.cons t1 (.cons t2 (.cons t3 (.cons t4 (.cons t5 (.cons t6 (.nil b6 b6) (by omega) (by omega) (by omega)) (by omega) (by omega) (by omega)) (by omega) (by omega) (by omega)) (by omega) (by omega) (by omega)) (by omega) (by omega) (by omega)) (by omega) (by omega) (by omega))
 have e : (Apt.tcells [((A1, r1.length, c1), (B1, g1.length, d1)), ((A2, r1.length, c2), (B2, g1.length, d2)), ((A3, r1.length, c3), (B3, g1.length, d3)), ((A4, r2.length, c4), (B4, g2.length, d4)), ((A5, r2.length, c5), (B5, g2.length, d5)), ((A6, r2.length, c6), (B6, g2.length, d6))]).toArray = (#[.slice A1 r1.length c1, .slice B1 g1.length d1, .slice A2 r1.length c2, .slice B2 g1.length d2, .slice A3 r1.length c3, .slice B3 g1.length d3, .slice A4 r2.length c4, .slice B4 g2.length d4, .slice A5 r2.length c5, .slice B5 g2.length d5, .slice A6 r2.length c6, .slice B6 g2.length d6] : Array Value) := by
  unfold Apt.tcells; simp only [List.flatMap_cons, List.flatMap_nil, List.cons_append, List.nil_append, Bld.hdr]
 have hx := zav V (.cells #[.slice A1 r1.length c1, .slice B1 g1.length d1, .slice A2 r1.length c2, .slice B2 g1.length d2, .slice A3 r1.length c3, .slice B3 g1.length d3, .slice A4 r2.length c4, .slice B4 g2.length d4, .slice A5 r2.length c5, .slice B5 g2.length d5, .slice A6 r2.length c6, .slice B6 g2.length d6] 25); rw [← e] at hx; have h := apart_chain (cL := 6) hch (by rw [e]; rw [e] at hx; exact hx) (Nat.le_of_ble_eq_true rfl) hlo
 exact h
structure Was (lo : Nat) (W : World) (bw : Nat) (A : Option Addr) (c : Nat) (B : Option Addr) (d : Nat) (R : Bld.TRows) : Prop where
 box : W.heap[bw]? = some (.cells #[.slice A (cvR R).length c, .slice B R.2.length d] 25 (0, 0))
 rA : (Kd.slice 93 k93).R 90 W lo (fun _ => True) (.slice A (cvR R).length c) R.1
 rB : (Kd.slice 3 (Kd.int .i64)).R 95 W lo (fun _ => True) (.slice B R.2.length d) R.2
 ge : lo ≤ bw
section
variable {lo lo1 hi : Nat} {W W' : World} {bw : Nat} {A : Option Addr} {c : Nat} {B : Option Addr} {d : Nat} {R : Bld.TRows}
theorem Was.below (H : Was lo W bw A c B d R) (hb : Below W.heap.size W W') : Was lo W' bw A c B d R := ⟨zal H.box hb, Kd.zbi H.rA hb, Kd.zbi H.rB hb, H.ge⟩
theorem Was.keeps (H : Was lo W bw A c B d R) (h : Keeps lo1 hi W W') (hl : hi ≤ lo) : Was lo W' bw A c B d R :=
 ⟨(h.block bw (zau H.box) (.inr (Nat.le_trans hl H.ge))).trans H.box, Kd.zbg (Kd.R_step (Kd.R_bound H.rA) (fun k hk hlt => h.block k hlt (.inr (Nat.le_trans hl hk.2.1)))) (fun _ _ => trivial), Kd.zbg (Kd.R_step (Kd.R_bound H.rB) (fun k hk hlt => h.block k hlt (.inr (Nat.le_trans hl hk.2.1)))) (fun _ _ => trivial), H.ge⟩
theorem Was.cA (H : Was lo W bw A c B d R) : (cvR R).length ≤ c := (Kd.zbo H.rA).2.1
theorem Was.cB (H : Was lo W bw A c B d R) : R.2.length ≤ d := (Kd.zbo H.rB).2.1
theorem Was.hA (H : Was lo W bw A c B d R) : (Kd.slice 93 PTableBack.k93).C W A (cvR R).length (cvR R) := by
 have h := Bld.C_cv (Kd.zbo H.rA).2.2; rw [← cvR_len R] at h; exact h
theorem Was.hB (H : Was lo W bw A c B d R) : (Kd.slice 3 (Kd.int .i64)).C W B R.2.length R.2 := (Kd.zbo H.rB).2.2
end
structure Trn (ps qs : List S77) (i : Nat) : Prop where
 len : qs.length = ps.length
 ge : ∀ j, i ≤ j → qs[j]? = ps[j]?
 dts : dots (qs.take i) = dots ((ps.drop 1).take i)
theorem Trn.zero (ps : List S77) : Trn ps ps 0 := ⟨rfl, fun _ _ => rfl, rfl⟩
theorem Trn.step {ps qs : List S77} {i : Nat} (h : Trn ps qs i) (hi : i + 1 < ps.length) (x : Int) : Trn ps (qs.set i ⟨x, (zao ps ((i + 1 : Nat) : Int)).f1⟩) (i + 1) := by
 refine ⟨by rw [List.length_set, h.len], fun j hj => ?_, ?_⟩
 ·rw [List.getElem?_set_ne (by omega)]; exact h.ge j (by omega)
 ·have hl := h.len; have e1 : (qs.set i ⟨x, (zao ps ((i + 1 : Nat) : Int)).f1⟩).take (i + 1) = qs.take i ++ [⟨x, (zao ps ((i + 1 : Nat) : Int)).f1⟩] := by
   rw [List.take_succ_eq_append_getElem (by rw [List.length_set]; omega), List.take_set_of_le (Nat.le_refl _), List.getElem_set_self]
  have e2 : (ps.drop 1).take (i + 1) = (ps.drop 1).take i ++ [ps[i + 1]] := by
   rw [List.take_succ_eq_append_getElem (by rw [List.length_drop]; omega), List.getElem_drop]
   congr 3
   omega
  rw [e1, e2, dots_snoc, dots_snoc, h.dts]; have e3 : zao ps ((i + 1 : Nat) : Int) = ps[i + 1] := by
   unfold zao; rw [Int.toNat_natCast, List.getD_eq_getElem?_getD, List.getElem?_eq_getElem hi]; rfl
  rw [e3]
theorem dots_app (a b : List S77) : dots (a ++ b) = dots a + dots b := by simp [dots]
theorem Trn.most {ps qs : List S77} {i : Nat} (h : Trn ps qs i) : dots qs ≤ dots ps + dots ps := by
 have e1 : dots qs = dots (qs.take i) + dots (qs.drop i) := by rw [← dots_app, List.take_append_drop]
 have e2 : qs.drop i = ps.drop i := by
  apply List.ext_getElem?; intro j; rw [List.getElem?_drop, List.getElem?_drop]; exact h.ge _ (by omega)
 have e3 : dots ps = dots (ps.take i) + dots (ps.drop i) := by rw [← dots_app, List.take_append_drop]
 have e4 : dots ps = dots (ps.take 1) + (dots ((ps.drop 1).take i) + dots ((ps.drop 1).drop i)) := by rw [← dots_app, ← dots_app, List.take_append_drop, List.take_append_drop]
 rw [e1, e2, h.dts]; omega
end Spr
end Go.Proofs.YtcijanmckhlpiaaDoor
namespace Go.Proofs.YtcijanmckhlpiaaDoor
open Go.RowKit Go.Proofs.YtcijanmckhlpiaaDoorW.PrintWords Go.Proofs.YtcijanmckhlpiaaDoorW.PrintLast Go.Proofs.YtcijanmckhlpiaaDoorW.PrintMore
namespace Spr
open Bld (HD hdr kH kInt BR TRows bldR RetBuild TbOwn cvA Tab64)
open Apt PTableBuilds
set_option maxRecDepth 100000 in
set_option maxHeartbeats 40000000 in
theorem tableSpares_any (A : Option Addr) (c : Nat) (l : List S112) (B : Option Addr) (d : Nat) (m : List S115) (C : Option Addr) (e : Nat) (ps : List S77) (w : World) (hg : Bld.GR w A c l B d m C e ps) (hd : Bld.dots ps ≤ 400000) (hl : l.length ≤ 1000000) (hm : m.length ≤ 1000000) (hT : Tab64 w) (het : Dec.ErrType w) :
  Calls Tryd.prog 8 #[.agg #[.slice A l.length c, .slice B m.length d, .slice C ps.length e]] w fun e' w' => e' = .returned (.bool true) ∧ Below w.heap.size w w' := by
 have hb0 := zab (Below.refl w.heap.size w) (.cells #[.slice A l.length c, .slice B m.length d, .slice C ps.length e] 51); have HAW := Lib.hid (Bld.awake_any (w.alloc (.cells #[.slice A l.length c, .slice B m.length d, .slice C ps.length e] 51)) (hT.below hb0) (het.below hb0)); obtain ⟨res, hres⟩ : ∃ res, res = bldR l.length m.length ps := ⟨_, rfl⟩; have hsm : Small (rowsOf res) := by rw [hres]; exact bldR_small _ _ _
 have HBU : Hid (∀ W, Below w.heap.size w W → Calls Tryd.prog 20 #[.agg #[.slice A l.length c, .slice B m.length d, .slice C ps.length e]] W (BV (rowsOf res) (codeOf res) W)) := Lib.hid (fun W hb => by
  rw [hres]; exact (Bld.build_all A c l B d m C e ps W (hg.below hb) (by omega) (hT.below hb) (het.below hb)).mono (fun e1 w1 h => bv_of h (bldR_small _ _ _)))
 have HGR := Lib.hid hg; have HT := Lib.hid hT; have HET := Lib.hid het; have HX0 := Lib.hid (zav w (.cells #[.slice A l.length c, .slice B m.length d, .slice C ps.length e] 51)); have HB0 := Lib.hid hb0; have hsB := Small.cv hsm; have z1 : (cvR (rowsOf res)).length ≤ 2048 := hsB.l1; have z2 : (rowsOf res).2.length ≤ 2048 := hsB.l2; obtain ⟨k1, hk1⟩ := (Enc.enc_ev (cvR (rowsOf res)) (rowsOf res).2 (fun x hx => by have := hsB.r1 x hx; omega) (fun x hx => by have := hsB.r2 x hx; omega)).rounds
 obtain ⟨k2, hk2⟩ := (twin_ev (rowsOf res).1 (rowsOf res).2 (by have := hsm.l1; omega) (fun x hx => by have := hsm.r1 x hx; omega) (by omega) (fun x hx => by have := hsm.r2 x hx; omega)).rounds
 have hdd := rowsD_enc (r1 := cvR (rowsOf res)) (r2 := (rowsOf res).2); have hsD : SmallB (rowsD (Enc.encB (cvR (rowsOf res)) (rowsOf res).2)) := by
  rcases hdd with ⟨_, e⟩ | ⟨_, _, e⟩
  ·rw [e]; exact hsB
  ·rw [e]; exact smallB_nil
 have hiz : (Enc.encB (cvR (rowsOf res)) (rowsOf res).2).size ≤ 2000000 := by
  rcases hdd with ⟨e, _⟩ | ⟨_, e, _⟩
  ·exact (Bld.encB_size e).2
  ·rw [e]; exact Nat.zero_le _
 have hid : Enc.encB (cvR (rowsOf res)) (rowsOf res).2 = ⟨#[]⟩ ∨ ((Enc.encB (cvR (rowsOf res)) (rowsOf res).2).toList.isEmpty = false ∧ rowsD (Enc.encB (cvR (rowsOf res)) (rowsOf res).2) = (cvR (rowsOf res), (rowsOf res).2)) := by
  rcases hdd with ⟨e, e2⟩ | ⟨_, e, _⟩
  ·refine .inr ⟨?_, e2⟩; have h3 := (Bld.encB_size e).1; rw [ByteArray.toList_eq]; cases hl : (Enc.encB (cvR (rowsOf res)) (rowsOf res).2).data.toList with
   | nil =>
    have h0 : (Enc.encB (cvR (rowsOf res)) (rowsOf res).2).data.toList.length = 0 := by rw [hl]; rfl
    have h1 : (Enc.encB (cvR (rowsOf res)) (rowsOf res).2).data.toList.length = (Enc.encB (cvR (rowsOf res)) (rowsOf res).2).size := Array.length_toList; omega
   | cons _ _ => rfl
  ·exact .inl e
 obtain ⟨img, himg⟩ : ∃ img, img = Enc.encB (cvR (rowsOf res)) (rowsOf res).2 := ⟨_, rfl⟩; rw [← himg] at hsD hiz hid hk1; have HID := Lib.hid hid; have HDE : Hid (∀ W, Calls Tryd.prog 9 #[.string img] W (DV (rowsD img) W)) := Lib.hid (fun W => (Dec.decode_any img W (by omega)).mono (fun e1 w1 h => dv_of h.1 h.2 hsD))
 generalize codeOf res = code at *; obtain ⟨R, hR⟩ : ∃ R, R = rowsOf res := ⟨_, rfl⟩; rw [← hR] at HBU hk1 hk2 z1 z2 HID hsm; have HK1 := Lib.hid hk1; have HK2 := Lib.hid hk2; have HSM := Lib.hid hsm; obtain ⟨kg, hkg⟩ := (gram_ev l m ps (by omega) (by omega) (by have := Bld.dots_len ps; omega) (fun x hx => by have := Bld.dots_mem hx; omega)).rounds
 have HKG := Lib.hid hkg; clear hg hT het hsm hb0 hres hsB hk1 hk2 hdd hsD himg hid hR hkg
 go_enter Tryd.func8, Tryd.ntmps8
 go_wp2_with (go_at_call 23; refine (HAW.out).mono ?_; rintro e1 w1_ ⟨rfl, hb1⟩; refine Hid.out ?_)
 refine Lib.hid ?_; have HB := Lib.hid (zam HB0.out hb1); have HX := Lib.hid (zal HX0.out hb1); clear hb1 HB0 HX0 HAW; have x0 := zac HX.out 0; have x1 := zac HX.out 1; have x2 := zac HX.out 2; simp at x0 x1 x2
 go_wp2_with (go_at_call 20; refine (HBU.out _ HB.out).mono ?_; rintro e1 w1 ⟨hb, A1, c1, B1, d1, s1, q1, rfl, hv, hp⟩; refine Hid.out ?_)
 refine Lib.hid ?_; have HV1 := Lib.hid hv; have hl1 : w.heap.size < w1_.heap.size := zau HX.out; have hm1 : w1_.heap.size ≤ w1.heap.size := hb.size; have hba := zab hb (.cells #[.slice A1 (cvR R).length c1, .slice B1 R.2.length d1] 25); have HBn := Lib.hid (zam HB.out hba); have HXn := Lib.hid (zal HX.out hba); clear HB HX; have HB := HBn; have HX := HXn; clear HBn HXn; clear hb hba hv hp x0 x1 x2
 go_wp2_with ((with_reducible refine gate_ (.load 51 (.tmp 1)) rfl ?_); refine Hid.out ?_)
 refine Lib.hid ?_; generalize w1.alloc (.cells #[.slice A1 (cvR R).length c1, .slice B1 R.2.length d1] 25) = V1 at *; generalize w1.heap.size = b1 at *; generalize w1_.heap.size = lo1 at *; have x0 := zac HX.out 0; have x1 := zac HX.out 1; have x2 := zac HX.out 2; simp at x0 x1 x2
 go_wp2_with (go_at_call 20; refine (HBU.out _ HB.out).mono ?_; rintro e2 w2 ⟨hb, A2, c2, B2, d2, s2, q2, rfl, hv, hp⟩; refine Hid.out ?_)
 refine Lib.hid ?_; have HV2 := Lib.hid hv; have hl2 : b1 < V1.heap.size := zau HV1.out.box; have hm2 : V1.heap.size ≤ w2.heap.size := hb.size; have hba := zab hb (.cells #[.slice A2 (cvR R).length c2, .slice B2 R.2.length d2] 25); have HP := Lib.hid (Kd.zaw hp (zab (Below.refl w2.heap.size w2) (.cells #[.slice A2 (cvR R).length c2, .slice B2 R.2.length d2] 25))); have HBn := Lib.hid (zam HB.out hba); have HXn := Lib.hid (zal HX.out hba); have HVn1 := Lib.hid (HV1.out.below hba); clear HB HX HV1; have HB := HBn; have HX := HXn; clear HBn HXn; have HV1 := HVn1; clear HVn1; clear hb hba hv hp x0 x1 x2
 go_wp2_with ((with_reducible refine gate_ (.load 51 (.tmp 1)) rfl ?_); refine Hid.out ?_)
 refine Lib.hid ?_; generalize w2.alloc (.cells #[.slice A2 (cvR R).length c2, .slice B2 R.2.length d2] 25) = V2 at *; generalize w2.heap.size = b2 at *; generalize V1.heap.size = lo2 at *; have x0 := zac HX.out 0; have x1 := zac HX.out 1; have x2 := zac HX.out 2; simp at x0 x1 x2
 go_wp2_with (go_at_call 20; refine (HBU.out _ HB.out).mono ?_; rintro e3 w3 ⟨hb, A3, c3, B3, d3, s3, q3, rfl, hv, hp⟩; refine Hid.out ?_)
 refine Lib.hid ?_; have HV3 := Lib.hid hv; have hl3 : b2 < V2.heap.size := zau HV2.out.box; have hm3 : V2.heap.size ≤ w3.heap.size := hb.size; have hba := zab hb (.cells #[.slice A3 (cvR R).length c3, .slice B3 R.2.length d3] 25); have HBn := Lib.hid (zam HB.out hba); have HXn := Lib.hid (zal HX.out hba); have HVn1 := Lib.hid (HV1.out.below hba); have HVn2 := Lib.hid (HV2.out.below hba); have HPn := Lib.hid (Kd.zaw HP.out hba); clear HB HX HV1 HV2 HP; have HB := HBn; have HX := HXn; clear HBn HXn; have HV1 := HVn1; clear HVn1; have HV2 := HVn2; clear HVn2; have HP := HPn; clear HPn; clear hb hba hv hp x0 x1 x2
 go_wp2_with ((with_reducible refine gate_ (.load 25 (.tmp 3)) rfl ?_); refine Hid.out ?_)
 refine Lib.hid ?_; generalize w3.alloc (.cells #[.slice A3 (cvR R).length c3, .slice B3 R.2.length d3] 25) = V3 at *; generalize w3.heap.size = b3 at *; generalize V2.heap.size = lo3 at *; have x0 := zac HX.out 0; have x1 := zac HX.out 1; have x2 := zac HX.out 2; simp at x0 x1 x2; clear x0 x1 x2; have t10 := zac HV1.out.box 0; have t11 := zac HV1.out.box 1; simp at t10 t11; have t20 := zac HV2.out.box 0; have t21 := zac HV2.out.box 1; simp at t20 t21; have t30 := zac HV3.out.box 0; have t31 := zac HV3.out.box 1; simp at t30 t31
 go_wp2_with (go_at_call 12; refine (same_eq A1 c1 (cvR R) B1 d1 R.2 A2 c2 (cvR R) B2 d2 R.2 V3 HV1.out.rA HV1.out.rB HV2.out.rA HV2.out.rB rfl rfl z1 z2).mono ?_; rintro e8 V4 ⟨rfl, hb⟩; refine Hid.out ?_)
 refine Lib.hid ?_; have HBn := Lib.hid (zam HB.out hb); have HXn := Lib.hid (zal HX.out hb); have HVn1 := Lib.hid (HV1.out.below hb); have HVn2 := Lib.hid (HV2.out.below hb); have HVn3 := Lib.hid (HV3.out.below hb); have HPn := Lib.hid (Kd.zaw HP.out hb); clear HB HX HV1 HV2 HV3 HP; have HB := HBn; have HX := HXn; clear HBn HXn; have HV1 := HVn1; clear HVn1; have HV2 := HVn2; clear HVn2; have HV3 := HVn3; clear HVn3; have HP := HPn; clear HPn; clear hb; clear t10 t11 t20 t21 t30 t31; have t10 := zac HV1.out.box 0; have t11 := zac HV1.out.box 1; simp at t10 t11; have t20 := zac HV2.out.box 0; have t21 := zac HV2.out.box 1; simp at t20 t21; have t30 := zac HV3.out.box 0; have t31 := zac HV3.out.box 1; simp at t30 t31
 go_wp2_with (go_at_call 12; refine (same_eq A1 c1 (cvR R) B1 d1 R.2 A3 c3 (cvR R) B3 d3 R.2 V4 HV1.out.rA HV1.out.rB HV3.out.rA HV3.out.rB rfl rfl z1 z2).mono ?_; rintro e8 V5 ⟨rfl, hb⟩; refine Hid.out ?_)
 refine Lib.hid ?_; have HBn := Lib.hid (zam HB.out hb); have HXn := Lib.hid (zal HX.out hb); have HVn1 := Lib.hid (HV1.out.below hb); have HVn2 := Lib.hid (HV2.out.below hb); have HVn3 := Lib.hid (HV3.out.below hb); have HPn := Lib.hid (Kd.zaw HP.out hb); clear HB HX HV1 HV2 HV3 HP; have HB := HBn; have HX := HXn; clear HBn HXn; have HV1 := HVn1; clear HVn1; have HV2 := HVn2; clear HVn2; have HV3 := HVn3; clear HVn3; have HP := HPn; clear HPn; clear hb; clear t10 t11 t20 t21 t30 t31; have t10 := zac HV1.out.box 0; have t11 := zac HV1.out.box 1; simp at t10 t11; have t20 := zac HV2.out.box 0; have t21 := zac HV2.out.box 1; simp at t20 t21; have t30 := zac HV3.out.box 0; have t31 := zac HV3.out.box 1; simp at t30 t31
 go_wp2_with (go_at_call 24; refine (PTableBack.table_Encode.calls k1 A2 c2 (cvR R) B2 d2 R.2 img V5 HV2.out.rA HV2.out.cA HV2.out.rB HV2.out.cB HK1.out).mono ?_; rintro e4 V6 ⟨rfl, hb⟩; refine Hid.out ?_)
 refine Lib.hid ?_; have HBn := Lib.hid (zam HB.out hb); have HXn := Lib.hid (zal HX.out hb); have HVn1 := Lib.hid (HV1.out.below hb); have HVn2 := Lib.hid (HV2.out.below hb); have HVn3 := Lib.hid (HV3.out.below hb); have HPn := Lib.hid (Kd.zaw HP.out hb); clear HB HX HV1 HV2 HV3 HP; have HB := HBn; have HX := HXn; clear HBn HXn; have HV1 := HVn1; clear HVn1; have HV2 := HVn2; clear HVn2; have HV3 := HVn3; clear HVn3; have HP := HPn; clear HPn; clear hb; clear t10 t11 t20 t21 t30 t31
 go_wp2_with (go_at_call 9; refine (HDE.out V6).mono ?_; rintro e4 w4 ⟨hb, A4, c4, B4, d4, v4, rfl, hv⟩; refine Hid.out ?_)
 refine Lib.hid ?_; have HV4 := Lib.hid hv; have hl4 : b3 < V6.heap.size := zau HV3.out.box; have hm4 : V6.heap.size ≤ w4.heap.size := hb.size; have hba := zab hb (.cells #[.slice A4 (rowsD img).1.length c4, .slice B4 (rowsD img).2.length d4] 25); have HBn := Lib.hid (zam HB.out hba); have HXn := Lib.hid (zal HX.out hba); have HVn1 := Lib.hid (HV1.out.below hba); have HVn2 := Lib.hid (HV2.out.below hba); have HVn3 := Lib.hid (HV3.out.below hba); have HPn := Lib.hid (Kd.zaw HP.out hba); clear HB HX HV1 HV2 HV3 HP; have HB := HBn; have HX := HXn; clear HBn HXn; have HV1 := HVn1; clear HVn1; have HV2 := HVn2; clear HVn2; have HV3 := HVn3; clear HVn3; have HP := HPn; clear HPn; clear hb hba hv
 go_wp2_with ((with_reducible refine Bld.gateN_ 89 rfl ?_); refine Hid.out ?_)
 refine Lib.hid ?_; generalize w4.alloc (.cells #[.slice A4 (rowsD img).1.length c4, .slice B4 (rowsD img).2.length d4] 25) = V7 at *; generalize w4.heap.size = b4 at *; generalize V6.heap.size = lo4 at *
 go_wp2_with (go_at_call 9; refine (HDE.out V7).mono ?_; rintro e5 w5 ⟨hb, A5, c5, B5, d5, v5, rfl, hv⟩; refine Hid.out ?_)
 refine Lib.hid ?_; have HV5 := Lib.hid hv; have hl5 : b4 < V7.heap.size := zau HV4.out.box; have hm5 : V7.heap.size ≤ w5.heap.size := hb.size; have hba := zab hb (.cells #[.slice A5 (rowsD img).1.length c5, .slice B5 (rowsD img).2.length d5] 25); have HBn := Lib.hid (zam HB.out hba); have HXn := Lib.hid (zal HX.out hba); have HVn1 := Lib.hid (HV1.out.below hba); have HVn2 := Lib.hid (HV2.out.below hba); have HVn3 := Lib.hid (HV3.out.below hba); have HVn4 := Lib.hid (HV4.out.below hba); have HPn := Lib.hid (Kd.zaw HP.out hba); clear HB HX HV1 HV2 HV3 HV4 HP; have HB := HBn; have HX := HXn; clear HBn HXn; have HV1 := HVn1; clear HVn1; have HV2 := HVn2; clear HVn2; have HV3 := HVn3; clear HVn3; have HV4 := HVn4; clear HVn4; have HP := HPn; clear HPn; clear hb hba hv
 go_wp2_with ((with_reducible refine Bld.gateN_ 94 rfl ?_); refine Hid.out ?_)
 refine Lib.hid ?_; generalize w5.alloc (.cells #[.slice A5 (rowsD img).1.length c5, .slice B5 (rowsD img).2.length d5] 25) = V8 at *; generalize w5.heap.size = b5 at *; generalize V7.heap.size = lo5 at *
 go_wp2_with (go_at_call 9; refine (HDE.out V8).mono ?_; rintro e6 w6 ⟨hb, A6, c6, B6, d6, v6, rfl, hv⟩; refine Hid.out ?_)
 refine Lib.hid ?_; have HV6 := Lib.hid hv; have hl6 : b5 < V8.heap.size := zau HV5.out.box; have hm6 : V8.heap.size ≤ w6.heap.size := hb.size; have hba := zab hb (.cells #[.slice A6 (rowsD img).1.length c6, .slice B6 (rowsD img).2.length d6] 25); have HBn := Lib.hid (zam HB.out hba); have HXn := Lib.hid (zal HX.out hba); have HVn1 := Lib.hid (HV1.out.below hba); have HVn2 := Lib.hid (HV2.out.below hba); have HVn3 := Lib.hid (HV3.out.below hba); have HVn4 := Lib.hid (HV4.out.below hba); have HVn5 := Lib.hid (HV5.out.below hba); have HPn := Lib.hid (Kd.zaw HP.out hba); clear HB HX HV1 HV2 HV3 HV4 HV5 HP; have HB := HBn; have HX := HXn; clear HBn HXn; have HV1 := HVn1; clear HVn1; have HV2 := HVn2; clear HVn2; have HV3 := HVn3; clear HVn3; have HV4 := HVn4; clear HVn4; have HV5 := HVn5; clear HVn5; have HP := HPn; clear HPn; clear hb hba hv
 go_wp2_with ((with_reducible refine Bld.gateN_ 98 rfl ?_); refine Hid.out ?_)
 refine Lib.hid ?_; generalize w6.alloc (.cells #[.slice A6 (rowsD img).1.length c6, .slice B6 (rowsD img).2.length d6] 25) = V9 at *; generalize w6.heap.size = b6 at *; generalize V8.heap.size = lo6 at *; rcases HID.out with hid | ⟨hne, h2⟩
 case' inl =>
  subst hid; clear HID
  go_wp2_with ((with_reducible refine gate_ (.load 25 (.tmp 7)) rfl ?_); refine Hid.out ?_)
  refine Lib.hid ?_; obtain ⟨V12, rfl⟩ : ∃ V, V = V9 := ⟨_, rfl⟩; generalize (⟨#[]⟩ : ByteArray) = img at *
 case' inr =>
  clear HID; have H2 := Lib.hid h2; clear h2; have t10 := zac HV1.out.box 0; have t11 := zac HV1.out.box 1; simp at t10 t11; have t40 := zac HV4.out.box 0; have t41 := zac HV4.out.box 1; simp at t40 t41; have t50 := zac HV5.out.box 0; have t51 := zac HV5.out.box 1; simp at t50 t51; have t60 := zac HV6.out.box 0; have t61 := zac HV6.out.box 1; simp at t60 t61
  go_wp2_with (go_at_call 12; refine (same_eq A4 c4 (rowsD img).1 B4 d4 (rowsD img).2 A1 c1 (cvR R) B1 d1 R.2 V9 HV4.out.rA HV4.out.rB HV1.out.rA HV1.out.rB (by rw [H2.out]) (by rw [H2.out]) z1 z2).mono ?_; rintro e8 V10 ⟨rfl, hb⟩; refine Hid.out ?_)
  refine Lib.hid ?_; have HBn := Lib.hid (zam HB.out hb); have HXn := Lib.hid (zal HX.out hb); have HVn1 := Lib.hid (HV1.out.below hb); have HVn2 := Lib.hid (HV2.out.below hb); have HVn3 := Lib.hid (HV3.out.below hb); have HVn4 := Lib.hid (HV4.out.below hb); have HVn5 := Lib.hid (HV5.out.below hb); have HVn6 := Lib.hid (HV6.out.below hb); have HPn := Lib.hid (Kd.zaw HP.out hb); clear HB HX HV1 HV2 HV3 HV4 HV5 HV6 HP; have HB := HBn; have HX := HXn; clear HBn HXn; have HV1 := HVn1; clear HVn1; have HV2 := HVn2; clear HVn2; have HV3 := HVn3; clear HVn3; have HV4 := HVn4; clear HVn4; have HV5 := HVn5; clear HVn5; have HV6 := HVn6; clear HVn6; have HP := HPn; clear HPn; clear hb; clear t10 t11 t40 t41 t50 t51 t60 t61; have t10 := zac HV1.out.box 0; have t11 := zac HV1.out.box 1; simp at t10 t11; have t40 := zac HV4.out.box 0; have t41 := zac HV4.out.box 1; simp at t40 t41; have t50 := zac HV5.out.box 0; have t51 := zac HV5.out.box 1; simp at t50 t51; have t60 := zac HV6.out.box 0; have t61 := zac HV6.out.box 1; simp at t60 t61
  go_wp2_with (go_at_call 12; refine (same_eq A5 c5 (rowsD img).1 B5 d5 (rowsD img).2 A1 c1 (cvR R) B1 d1 R.2 V10 HV5.out.rA HV5.out.rB HV1.out.rA HV1.out.rB (by rw [H2.out]) (by rw [H2.out]) z1 z2).mono ?_; rintro e8 V11 ⟨rfl, hb⟩; refine Hid.out ?_)
  refine Lib.hid ?_; have HBn := Lib.hid (zam HB.out hb); have HXn := Lib.hid (zal HX.out hb); have HVn1 := Lib.hid (HV1.out.below hb); have HVn2 := Lib.hid (HV2.out.below hb); have HVn3 := Lib.hid (HV3.out.below hb); have HVn4 := Lib.hid (HV4.out.below hb); have HVn5 := Lib.hid (HV5.out.below hb); have HVn6 := Lib.hid (HV6.out.below hb); have HPn := Lib.hid (Kd.zaw HP.out hb); clear HB HX HV1 HV2 HV3 HV4 HV5 HV6 HP; have HB := HBn; have HX := HXn; clear HBn HXn; have HV1 := HVn1; clear HVn1; have HV2 := HVn2; clear HVn2; have HV3 := HVn3; clear HVn3; have HV4 := HVn4; clear HVn4; have HV5 := HVn5; clear HVn5; have HV6 := HVn6; clear HVn6; have HP := HPn; clear HPn; clear hb; clear t10 t11 t40 t41 t50 t51 t60 t61; have t10 := zac HV1.out.box 0; have t11 := zac HV1.out.box 1; simp at t10 t11; have t40 := zac HV4.out.box 0; have t41 := zac HV4.out.box 1; simp at t40 t41; have t50 := zac HV5.out.box 0; have t51 := zac HV5.out.box 1; simp at t50 t51; have t60 := zac HV6.out.box 0; have t61 := zac HV6.out.box 1; simp at t60 t61
  go_wp2_with (go_at_call 12; refine (same_eq A6 c6 (rowsD img).1 B6 d6 (rowsD img).2 A1 c1 (cvR R) B1 d1 R.2 V11 HV6.out.rA HV6.out.rB HV1.out.rA HV1.out.rB (by rw [H2.out]) (by rw [H2.out]) z1 z2).mono ?_; rintro e8 V12 ⟨rfl, hb⟩; refine Hid.out ?_)
  refine Lib.hid ?_; have HBn := Lib.hid (zam HB.out hb); have HXn := Lib.hid (zal HX.out hb); have HVn1 := Lib.hid (HV1.out.below hb); have HVn2 := Lib.hid (HV2.out.below hb); have HVn3 := Lib.hid (HV3.out.below hb); have HVn4 := Lib.hid (HV4.out.below hb); have HVn5 := Lib.hid (HV5.out.below hb); have HVn6 := Lib.hid (HV6.out.below hb); have HPn := Lib.hid (Kd.zaw HP.out hb); clear HB HX HV1 HV2 HV3 HV4 HV5 HV6 HP; have HB := HBn; have HX := HXn; clear HBn HXn; have HV1 := HVn1; clear HVn1; have HV2 := HVn2; clear HVn2; have HV3 := HVn3; clear HVn3; have HV4 := HVn4; clear HVn4; have HV5 := HVn5; clear HVn5; have HV6 := HVn6; clear HVn6; have HP := HPn; clear HPn; clear hb; clear t10 t11 t40 t41 t50 t51 t60 t61; clear hne H2
  go_wp2_with ((with_reducible refine gate_ (.load 25 (.tmp 7)) rfl ?_); refine Hid.out ?_)
  refine Lib.hid ?_
 all_goals
  have t20 := zac HV2.out.box 0; have t21 := zac HV2.out.box 1; simp at t20 t21; have htw := PTableBuilds.trellislaw13_twin.calls k2 A2 c2 R.1 B2 d2 R.2 R.1 R.2 V12 (by rw [← cvR_len R]; exact HP.out) (by rw [← cvR_len R]; exact HV2.out.cA) HV2.out.rB HV2.out.cB HK2.out
  rw [← cvR_len R] at htw; have HTW := Lib.hid htw; clear htw HP
  go_wp2_with (go_at_call 26; refine (HTW.out).mono ?_; rintro e7 w7 ⟨v0, v1, rfl, hs0, hs1, hb⟩; refine Hid.out ?_)
  refine Lib.hid ?_; have hr0 := Kd.S_R hs0; have hr1 := Kd.S_R hs1; obtain ⟨A8, c8, e8, -, -⟩ := Kd.zbe hr0; obtain ⟨B8, d8, e9, -, -⟩ := Kd.zbe hr1; rw [← cvR_len R] at e8; subst e8 e9; have hwb : b6 < V12.heap.size := zau HV6.out.box; have hwl := hb.size; have hba := zab hb (.cells #[.slice A8 (cvR R).length c8, .slice B8 R.2.length d8] 25); have hbn := zab (Below.refl w7.heap.size w7) (.cells #[.slice A8 (cvR R).length c8, .slice B8 R.2.length d8] 25); have HW := Lib.hid (show Was V12.heap.size (w7.alloc (.cells #[.slice A8 (cvR R).length c8, .slice B8 R.2.length d8] 25)) w7.heap.size A8 c8 B8 d8 R from ⟨zav w7 _, Kd.zbi hr0 hbn, Kd.zbi hr1 hbn, hwl⟩); clear HTW hs0 hs1 hr0 hr1 hbn hwl hb; have HBn := Lib.hid (zam HB.out hba); have HXn := Lib.hid (zal HX.out hba); have HVn1 := Lib.hid (HV1.out.below hba); have HVn2 := Lib.hid (HV2.out.below hba); have HVn3 := Lib.hid (HV3.out.below hba); have HVn4 := Lib.hid (HV4.out.below hba); have HVn5 := Lib.hid (HV5.out.below hba); have HVn6 := Lib.hid (HV6.out.below hba); clear HB HX HV1 HV2 HV3 HV4 HV5 HV6; have HB := HBn; have HX := HXn; clear HBn HXn; have HV1 := HVn1; clear HVn1; have HV2 := HVn2; clear HVn2; have HV3 := HVn3; clear HVn3; have HV4 := HVn4; clear HVn4; have HV5 := HVn5; clear HVn5; have HV6 := HVn6; clear HVn6; clear hba; clear t20 t21
  go_wp2_with ((with_reducible refine gate_ (.load 25 (.tmp 3)) rfl ?_); refine Hid.out ?_)
  refine Lib.hid ?_; generalize w7.alloc (.cells #[.slice A8 (cvR R).length c8, .slice B8 R.2.length d8] 25) = V13 at *; generalize w7.heap.size = bw at *; generalize V12.heap.size = lw at *; have t10 := zac HV1.out.box 0; have t11 := zac HV1.out.box 1; simp at t10 t11; have t20 := zac HV2.out.box 0; have t21 := zac HV2.out.box 1; simp at t20 t21; have t30 := zac HV3.out.box 0; have t31 := zac HV3.out.box 1; simp at t30 t31; have t40 := zac HV4.out.box 0; have t41 := zac HV4.out.box 1; simp at t40 t41; have t50 := zac HV5.out.box 0; have t51 := zac HV5.out.box 1; simp at t50 t51; have t60 := zac HV6.out.box 0; have t61 := zac HV6.out.box 1; simp at t60 t61
  go_wp2_with ((with_reducible refine Bld.gateN_ 126 rfl ?_); refine Hid.out ?_)
  refine Lib.hid ?_; have hsix := apart_six HV1.out HV2.out HV3.out HV4.out HV5.out HV6.out hl2 hl3 hl4 hl5 hl6 hm1 hm2 hm3 hm4 hm5 hm6; have HSIX := Lib.hid hsix; have hba := zab (Below.refl V13.heap.size V13) (.cells #[.slice A1 (cvR R).length c1, .slice B1 R.2.length d1, .slice A2 (cvR R).length c2, .slice B2 R.2.length d2, .slice A3 (cvR R).length c3, .slice B3 R.2.length d3, .slice A4 (rowsD img).1.length c4, .slice B4 (rowsD img).2.length d4, .slice A5 (rowsD img).1.length c5, .slice B5 (rowsD img).2.length d5, .slice A6 (rowsD img).1.length c6, .slice B6 (rowsD img).2.length d6] 25); have hbq := zam HB.out hba; have hxq := zal HX.out hba; have hwq := HW.out.below hba; have HQ := Lib.hid (And.intro hbq (And.intro hxq hwq)); clear hsix hba hbq hxq hwq HB HX HW HV1 HV2 HV3 HV4 HV5 HV6; clear t10 t11 t20 t21 t30 t31 t40 t41 t50 t51 t60 t61
  go_wp2_with (go_at_call 27; refine Hid.out ?_)
  refine Lib.hid ?_; refine (HSIX.out).mono ?_; rintro e8 W8 ⟨rfl, hk⟩; obtain ⟨hbq, hxq, hwq⟩ := HQ.out; have HB := Lib.hid (hk.below hbq (Nat.le_of_lt hl1) hbq.size); have HX := Lib.hid ((hk.block w.heap.size (zau hxq) (.inl hl1)).trans hxq); have HW := Lib.hid (hwq.keeps hk (Nat.le_of_lt hwb)); clear hbq hxq hwq hk HQ HSIX; have x0 := zac HX.out 0; have x1 := zac HX.out 1; have x2 := zac HX.out 2; simp at x0 x1 x2
  go_wp2_with (go_at_call 20; refine Hid.out ?_)
  refine Lib.hid ?_; refine (HBU.out _ HB.out).mono ?_; rintro e7 w7 ⟨hb, A7, c7, B7, d7, s7, q7, rfl, hv, hp⟩; have HV7 := Lib.hid hv; have hba := zab hb (.cells #[.slice A7 (cvR R).length c7, .slice B7 R.2.length d7] 25); have HBn := Lib.hid (zam HB.out hba); have HXn := Lib.hid (zal HX.out hba); have HWn := Lib.hid (HW.out.below hba); clear HB HX  HW; have HB := HBn; have HX := HXn; clear HBn HXn; have HW := HWn; clear HWn; clear hb hba hv hp x0 x1 x2
  go_wp2_with ((with_reducible refine gate_ (.load 25 (.tmp 23)) rfl ?_); refine Hid.out ?_)
  refine Lib.hid ?_; generalize w7.alloc (.cells #[.slice A7 (cvR R).length c7, .slice B7 R.2.length d7] 25) = V7 at *; generalize w7.heap.size = b7 at *; generalize W8.heap.size = lo7 at *; have x0 := zac HX.out 0; have x1 := zac HX.out 1; have x2 := zac HX.out 2; simp at x0 x1 x2; clear x0 x1 x2; have t70 := zac HV7.out.box 0; have t71 := zac HV7.out.box 1; simp at t70 t71; have w0 := zac HW.out.box 0; have w1 := zac HW.out.box 1; simp at w0 w1
  go_wp2_with (go_at_call 12; refine Hid.out ?_)
  refine Lib.hid ?_; refine (same_eq A7 c7 (cvR R) B7 d7 R.2 A8 c8 (cvR R) B8 d8 R.2 V7 HV7.out.rA HV7.out.rB HW.out.hA HW.out.hB rfl rfl z1 z2).mono ?_; rintro e9 V20 ⟨rfl, hb⟩; clear w0 w1 HW t70 t71 HV7; have HBn := Lib.hid (zam HB.out hb); have HXn := Lib.hid (zal HX.out hb); clear HB HX; have HB := HBn; have HX := HXn; clear HBn HXn; clear hb; have x0 := zac HX.out 0; have x1 := zac HX.out 1; have x2 := zac HX.out 2; simp at x0 x1 x2; have hgr := HGR.out.below HB.out; have hcg := PTableBuilds.trellislaw13_twinGram.calls kg A c l B d m C e ps l m ps V20 hgr.hA hgr.cA hgr.hB hgr.cB hgr.hC hgr.cC HKG.out; have HCG := Lib.hid hcg; clear hgr hcg
  go_wp2_with (go_at_call 28; refine Hid.out ?_)
  refine Lib.hid ?_; refine (HCG.out).mono ?_; rintro e10 w10 ⟨v10, v11, v12, rfl, h0, h1, h2, hb⟩; obtain ⟨Aa, ca, ea, -, -⟩ := Kd.zbe h0; obtain ⟨Ba, da, eb, -, -⟩ := Kd.zbe h1; obtain ⟨Pa, pa, ec⟩ := Kd.N_slice (Kd.S_N h2); subst ea eb ec; have hba := zab hb (.cells #[.slice Aa l.length ca, .slice Ba m.length da, .slice Pa ps.length pa] 51); have hbn := zab (Below.refl w10.heap.size w10) (.cells #[.slice Aa l.length ca, .slice Ba m.length da, .slice Pa ps.length pa] 51); have HM := Lib.hid (show Mn V20.heap.size (w10.alloc (.cells #[.slice Aa l.length ca, .slice Ba m.length da, .slice Pa ps.length pa] 51)) w10.heap.size Aa ca l Ba da m Pa pa ps.length ps from ⟨zav w10 _, Kd.zbi h0 hbn, Kd.zbi h1 hbn, Kd.N_below (Kd.S_N h2) hbn, hb.size⟩); have hgm : w.heap.size ≤ V20.heap.size := HB.out.size; have hgx : w.heap.size < V20.heap.size := zau HX.out; clear h0 h1 h2 hb hbn HCG; have HBn := Lib.hid (zam HB.out hba); have HXn := Lib.hid (zal HX.out hba); clear HB HX; have HB := HBn; have HX := HXn; clear HBn HXn; clear hba x0 x1 x2
  go_wp2_with ((with_reducible refine gate_ (.load 51 (.tmp 27)) rfl ?_); refine Hid.out ?_)
  refine Lib.hid ?_; generalize w10.alloc (.cells #[.slice Aa l.length ca, .slice Ba m.length da, .slice Pa ps.length pa] 51) = V21 at *; generalize w10.heap.size = gm at *; generalize V20.heap.size = bm at *; have y0 := zac HM.out.box 0; have y1 := zac HM.out.box 1; have y2 := zac HM.out.box 2; simp at y0 y1 y2; have HBM := Lib.hid (Bld.build_all Aa ca l Ba da m Pa pa ps V21 HM.out.gr (by omega) (HT.out.below HB.out) (HET.out.below HB.out))
  go_wp2_with (go_at_call 20; refine Hid.out ?_)
  refine Lib.hid ?_; refine (HBM.out).mono ?_; rintro e11 V22 hrb; obtain ⟨hb, Ab, cb, Bb, db, sb, tb, rfl, -, -⟩ := bv_of hrb (bldR_small _ _ _); have HMn := Lib.hid (HM.out.below hb); clear HM HBM y0 y1 y2 hrb; have HM := HMn; clear HMn; have HBn := Lib.hid (zam HB.out hb); have HXn := Lib.hid (zal HX.out hb); clear HB HX; have HB := HBn; have HX := HXn; clear HBn HXn; clear hb
  go_wp2_with fail
  go_loopw [28] (fun v28 w' => ∃ (i : Nat) (qs : List S77), v28 = .int .i64 (i : Int) ∧ (i = 0 ∨ i + 1 ≤ ps.length) ∧ Hid (Trn ps qs i) ∧ Hid (Mn bm w' gm Aa ca l Ba da m Pa pa ps.length qs) ∧ Hid (Below w.heap.size w w') ∧ Hid (w'.heap[w.heap.size]? = some (Obj.cells #[.slice A l.length c, .slice B m.length d, .slice C ps.length e] 51 (0, 0)))) (fun v28 _ => ps.length - (intOf v28).toNat)
  case atStart => exact ⟨0, ps, rfl, .inl rfl, Lib.hid (Trn.zero ps), HM, HB, HX⟩
  case round =>
   clear HM HB HX; obtain ⟨i, qs, rfl, hi0, HTR, HM, HB, HX⟩ := hrel; have hps := Bld.dots_len ps; have hiw : IntKind.i64.wrap ((i : Int) + 1) = (i : Int) + 1 := IntWalk.i64_in _ (by omega)
   by_cases hlt : i + 1 < ps.length
   ·have hib : decide ((i : Int) + 1 < (ps.length : Int)) = true := decide_eq_true (by omega)
    have hi1 : (0 : Int) ≤ (i : Int) := Int.natCast_nonneg _; have hi2 : (i : Int) < (ps.length : Int) := by omega
    have hi3 : (0 : Int) ≤ (i : Int) + 1 := by omega
    have hi4 : (i : Int) + 1 < (ps.length : Int) := by omega
    have hi5 : ((i : Int) + 1).toNat = i + 1 := by omega
    obtain ⟨gp, hPa, hgp, Aq, cq, q0, q1, q1f⟩ := HM.out.at_ (i := i) (by omega)
    subst hPa; obtain ⟨adg, Ar, cr, hC, g1, hcr, hF⟩ := gr_rhs HGR.out HB.out hlt; subst hC; have HTR2 := Lib.hid (HTR.out.step hlt (zao qs (i : Int)).f0); have HPUT := Lib.hid ((HM.out.put (i := i) (by omega) hcr (Kd.F_mono hF (fun k hk => Nat.lt_of_lt_of_le hk hgm))).drew)
    generalize (zao ps ((i + 1 : Nat) : Int)).f1 = row at *; generalize row.length = rl at *; have x2 := zac HX.out 2; have y2 := zac HM.out.box 2; simp at x2 y2; have hme : ps.length - (i + 1) < ps.length - i := by omega
    go_wp2_with fail
    clear x2 y2; have hmx : Tryd.prog.follows .mixedOrders = true := by kernel_rfl
    refine start_ (n := 13) (S := fun w' => w'.cell? ⟨gm, 2, none⟩ = some (.slice (some ⟨gp, 0, none⟩) ps.length pa) ∧ w'.cell? ⟨w.heap.size, 2, none⟩ = some (.slice (some adg) ps.length e) ∧ w'.cell? ⟨(adg.add ((i + 1) * 2)).block, (adg.add ((i + 1) * 2)).off + 1, none⟩ = some (.slice Ar rl cr)) (ds := [12]) #[false, false, false, false, false, false, false, false, false, false, false, false, false] (by kernel_rfl) rfl rfl ⟨zac (zaj HM.out.box) 2, zac (zaj HX.out) 2, zat (zbl (Below.refl _ _)) g1⟩ (fun hHeld => ?_)
    refine pe_ 0 (some 156) ?_ ?_ ?_ ?_ ?_; rotate_left
    ·intro w'; go_simp
     with_reducible rfl
    rotate_left
    ·simp only [nm_]; rfl
    refine pe_ 2 (some 158) ?_ ?_ ?_ ?_ ?_; rotate_left
    ·intro w'; go_simp
     with_reducible rfl
    rotate_left
    ·simp only [nm_]; rfl
    refine pe_ 3 (some 159) ?_ ?_ ?_ ?_ ?_; rotate_left
    ·intro w'; go_simp
     with_reducible rfl
    rotate_left
    ·simp only [nm_]; rfl
    refine pe_ 5 (some 161) ?_ ?_ ?_ ?_ ?_; rotate_left
    ·intro w'; go_simp
     with_reducible rfl
    rotate_left
    ·simp only [nm_]; rfl
    refine pe_ 6 (some 162) ?_ ?_ ?_ ?_ ?_; rotate_left
    ·intro w'; go_simp
     with_reducible rfl
    rotate_left
    ·simp only [nm_]; rfl
    refine te_ 1 (some 157) hHeld ?_ ?_ ?_ ?_ ?_; rotate_left
    ·rintro w' ⟨s0, s1, s2⟩; go_simp
     with_reducible rfl
    rotate_left
    ·simp only [nm_]; rfl
    refine te_ 4 (some 160) hHeld ?_ ?_ ?_ ?_ ?_; rotate_left
    ·rintro w' ⟨s0, s1, s2⟩; go_simp
     with_reducible rfl
    rotate_left
    ·simp only [nm_]; rfl
    refine pe_ 7 (some 163) ?_ ?_ ?_ ?_ ?_; rotate_left
    ·intro w'; go_simp
     with_reducible rfl
    rotate_left
    ·simp only [nm_]; rfl
    refine pe_ 8 (some 164) ?_ ?_ ?_ ?_ ?_; rotate_left
    ·intro w'; go_simp
     with_reducible rfl
    rotate_left
    ·simp only [nm_]; rfl
    refine te_ 9 (some 165) hHeld ?_ ?_ ?_ ?_ ?_; rotate_left
    ·rintro w' ⟨s0, s1, s2⟩; go_simp
     with_reducible rfl
    rotate_left
    ·simp only [nm_]; rfl
    refine pe_ 10 (some 166) ?_ ?_ ?_ ?_ ?_; rotate_left
    ·intro w'; go_simp
     with_reducible rfl
    rotate_left
    ·simp only [nm_]; rfl
    refine pe_ 11 (some 167) ?_ ?_ ?_ ?_ ?_; rotate_left
    ·intro w'; go_simp
     with_reducible rfl
    rotate_left
    ·simp only [nm_]; rfl
    refine lu_ (i := 12) (N := none) rfl rfl (by kernel_rfl) (by decide) (fun K hK => ?_)
    refine skip_ (w1 := ?_) (by rfl) rfl ?_ ?_
    rotate_left
    ·go_simp; rfl
    refine hK.out _ _ ?_; clear hK K; refine done_ (by kernel_rfl) ?_
    go_simp
    go_wp2_with fail
    have HBn := Lib.hid (zbl (zae (j := i * 2 + 1) (v := .slice Ar rl cr) HB.out (Nat.le_trans hgm hgp))); have HXn := Lib.hid (zaj (zaq HX.out (p := ⟨gp, i * 2 + 1, none⟩) (by show w.heap.size ≠ gp; omega) (.slice Ar rl cr)))
    have hor : i + 1 = 0 ∨ i + 1 + 1 ≤ ps.length := .inr hlt; go_roundw
    case rel => first | exact ⟨i + 1, _, by rw [Int.natCast_add]; rfl, hor, HTR2, HPUT, HBn, HXn⟩ | ((repeat apply Exists.intro); exact ⟨⟨i + 1, _, by rw [Int.natCast_add]; rfl, hor, HTR2, HPUT, HBn, HXn⟩, rfl⟩)
    case measure => exact hme
   ·have hib : decide ((i : Int) + 1 < (ps.length : Int)) = false := decide_eq_false (by omega)
    have hq2 : Bld.dots qs ≤ 1048576 := by have := HTR.out.most; omega
    have HMq : Hid (Mn bm wr gm Aa ca l Ba da m Pa pa qs.length qs) := by
     have h := HM.out; rw [← HTR.out.len] at h; exact Lib.hid h
    rw [← HTR.out.len] at hib; obtain ⟨rq, hrq⟩ : ∃ r, r = bldR l.length m.length qs := ⟨_, rfl⟩; have hsq : Small (rowsOf rq) := by rw [hrq]; exact bldR_small _ _ _
    have HBQ : Hid (∀ (W : World) (Aw : Option Addr) (cw : Nat) (Bw : Option Addr) (dw : Nat) (Pw : Option Addr) (ew : Nat), Bld.GR W Aw cw l Bw dw m Pw ew qs → Below w.heap.size w W → Calls Tryd.prog 20 #[.agg #[.slice Aw l.length cw, .slice Bw m.length dw, .slice Pw qs.length ew]] W (BV (rowsOf rq) (codeOf rq) W)) := Lib.hid (fun W Aw cw Bw dw Pw ew hg hb => by
     rw [hrq]; exact (Bld.build_all Aw cw l Bw dw m Pw ew qs W hg hq2 (HT.out.below hb) (HET.out.below hb)).mono (fun e1 w1 h => bv_of h (bldR_small _ _ _)))
    have hsB := Small.cv hsq; have z3 : (cvR (rowsOf rq)).length ≤ 2048 := hsB.l1; have z4 : (rowsOf rq).2.length ≤ 2048 := hsB.l2; obtain ⟨kh, hkh⟩ := (gram_ev l m qs (by omega) (by omega) (by have := Bld.dots_len qs; omega) (fun x hx => by have := Bld.dots_mem hx; omega)).rounds
    have HKH := Lib.hid hkh; generalize codeOf rq = code2 at *; obtain ⟨Q, hQ⟩ : ∃ Q, Q = rowsOf rq := ⟨_, rfl⟩; rw [← hQ] at HBQ z3 z4; clear hQ hrq hsq hsB hkh HM HTR; have HM := HMq; clear HMq; have y0 := zac HM.out.box 0; have y1 := zac HM.out.box 1; have y2 := zac HM.out.box 2; simp at y0 y1 y2
    go_wp2_with (go_at_call 20; refine Hid.out ?_)
    refine Lib.hid ?_; refine (HBQ.out _ _ _ _ _ _ _ HM.out.gr HB.out).mono ?_; rintro e12 w12 ⟨hb, A9, c9, B9, d9, s9, q9, rfl, hv, -⟩; have HV9 := Lib.hid hv; have hba := zab hb (.cells #[.slice A9 (cvR Q).length c9, .slice B9 Q.2.length d9] 25); have HMn := Lib.hid (HM.out.below hba); have HBn := Lib.hid (zam HB.out hba); clear hb hba hv y0 y1 y2 HM HB HX; have HM := HMn; have HB := HBn; clear HMn HBn
    go_wp2_with ((with_reducible refine gate_ (.load 51 (.tmp 27)) rfl ?_); refine Hid.out ?_)
    refine Lib.hid ?_; generalize w12.alloc (.cells #[.slice A9 (cvR Q).length c9, .slice B9 Q.2.length d9] 25) = V30 at *; generalize w12.heap.size = b9 at *; generalize wr.heap.size = lo9 at *; have y0 := zac HM.out.box 0; have y1 := zac HM.out.box 1; have y2 := zac HM.out.box 2; simp at y0 y1 y2; have hgr := HM.out.gr; have HCG := Lib.hid (PTableBuilds.trellislaw13_twinGram.calls kh Aa ca l Ba da m Pa pa qs l m qs V30 hgr.hA hgr.cA hgr.hB hgr.cB hgr.hC hgr.cC HKH.out); clear hgr HM
    go_wp2_with (go_at_call 28; refine Hid.out ?_)
    refine Lib.hid ?_; refine (HCG.out).mono ?_; rintro e13 w13 ⟨v10, v11, v12, rfl, h0, h1, h2, hb⟩; obtain ⟨Ac, cc, ea, a1, a2⟩ := Kd.zbe h0; obtain ⟨Bc, dc, eb, b1_, b2_⟩ := Kd.zbe h1; obtain ⟨Pc, pc, ec, c1_, c2_⟩ := Kd.N_reads (Kd.S_N h2); subst ea eb ec; have HGc := Lib.hid (show Bld.GR w13 Ac cc l Bc dc m Pc pc qs from ⟨a2, a1, b2_, b1_, c2_, c1_⟩); have HVn := Lib.hid (HV9.out.below hb); have HBn := Lib.hid (zam HB.out hb); clear h0 h1 h2 a1 a2 b1_ b2_ c1_ c2_ hb y0 y1 y2 HCG HV9 HB; have HV9 := HVn; have HB := HBn; clear HVn HBn
    go_wp2_with (go_at_call 20; refine Hid.out ?_)
    refine Lib.hid ?_; refine (HBQ.out _ _ _ _ _ _ _ HGc.out HB.out).mono ?_; rintro e14 w14 ⟨hb, A10, c10, B10, d10, s10, q10, rfl, hv, -⟩; have HV10 := Lib.hid hv; have hba := zab hb (.cells #[.slice A10 (cvR Q).length c10, .slice B10 Q.2.length d10] 25); have HVn := Lib.hid (HV9.out.below hba); have HBn := Lib.hid (zam HB.out hba); clear hb hba hv HV9 HB HGc; have HV9 := HVn; have HB := HBn; clear HVn HBn
    go_wp2_with ((with_reducible refine gate_ (.load 25 (.tmp 29)) rfl ?_); refine Hid.out ?_)
    refine Lib.hid ?_; generalize w14.alloc (.cells #[.slice A10 (cvR Q).length c10, .slice B10 Q.2.length d10] 25) = V31 at *; generalize w14.heap.size = b10 at *; generalize w13.heap.size = lo10 at *; have t90 := zac HV9.out.box 0; have t91 := zac HV9.out.box 1; have ta0 := zac HV10.out.box 0; have ta1 := zac HV10.out.box 1; simp at t90 t91 ta0 ta1
    go_wp2_with (go_at_call 12; refine Hid.out ?_)
    refine Lib.hid ?_; refine (same_eq A9 c9 (cvR Q) B9 d9 Q.2 A10 c10 (cvR Q) B10 d10 Q.2 V31 HV9.out.rA HV9.out.rB HV10.out.rA HV10.out.rB rfl rfl z3 z4).mono ?_; rintro e15 V32 ⟨rfl, hb⟩; have HBn := Lib.hid (zam HB.out hb); clear hb t90 t91 ta0 ta1 HV9 HV10 HB
    go_wp2_with fail
    go_ret; exact ⟨rfl, HBn.out⟩
end Spr
end Go.Proofs.YtcijanmckhlpiaaDoor
