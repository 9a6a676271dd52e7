-- Texts of this seat, cut to what is used and merged (by shake.py).
import Derived.Test.YtcijanmckhlpiaaDoorSq0
import Derived.Test.YtcijanmckhlpiaaDoorSq1
import Derived.Test.YtcijanmckhlpiaaDoorProg
import Derived.Below
import Derived.Deep.Draws
import Derived.Deep.AppendLies
import Derived.Maps.AppendAt
import Derived.OwnWalk
import Derived.Laws.BytesArg
import Derived.Laws.MakeOwn
import Derived.Laws.OwnMore
import Derived.Deep.OwnRows
import Derived.Tactics
import Derived.Lib.ConvBytes
import Derived.Laws.Slices
import Derived.WalkKit
import Derived.KernelRfl
import Derived.RowKit3
import Derived.Deep.LoopGhost
import Derived.Deep.QuietTactic
import Derived.BigQuiet
import Derived.WideLaws
import Derived.Deep.DeepCutAuto
import Derived.Deep.CutBlock
import Derived.Deep.RegionHeld3
import Derived.Laws.Rows
import Derived.Lib.AppendStr
import Derived.ArgAppend
import Derived.Laws.IdiomCopy
import Derived.OrdersHeld
import Derived.Laws.BitsLemmas
import Derived.RowKit
import Derived.Laws.BitsAllLaws
import Derived.Lib.Hide
import Derived.Deep.MidRow
import Derived.ChangeKeysEq
import Derived.Laws.StructEq
set_option linter.unusedVariables false
set_option linter.unusedSimpArgs false
namespace Go.Proofs.YtcijanmckhlpiaaDoor.PTableBuilds
open Go.RowKit Go.Proofs.YtcijanmckhlpiaaDoorW.PrintWords Go.Proofs.YtcijanmckhlpiaaDoorW.PrintLast Go.Proofs.YtcijanmckhlpiaaDoorW.PrintMore
attribute [local go_sem] max2_int min2_int max_two min_two max_three min_three max_four min_four
theorem info4 : (Tryd.prog.info? 4).map (fun i => (i.zero, i.size, i.bytes)) = some (some (.bool false), 1, 1) := by kernel_rfl
theorem info77 : (Tryd.prog.info? 77).map (fun i => (i.zero, i.size, i.bytes)) = some (some (.agg #[(.int .i64 0), (.slice none 0 0)]), 2, 32) := by kernel_rfl
theorem info93 : (Tryd.prog.info? 93).map (fun i => (i.zero, i.size, i.bytes)) = some (some (.agg #[(.int .i64 0), (.int .i64 0)]), 2, 16) := by kernel_rfl
theorem info110 : (Tryd.prog.info? 110).map (fun i => (i.zero, i.size, i.bytes)) = some (some (.agg #[(.int .i64 0), (.string ⟨#[]⟩), (.string ⟨#[]⟩)]), 3, 40) := by kernel_rfl
theorem info112 : (Tryd.prog.info? 112).map (fun i => (i.zero, i.size, i.bytes)) = some (some (.agg #[(.string ⟨#[]⟩), (.bool false)]), 2, 24) := by kernel_rfl
theorem info115 : (Tryd.prog.info? 115).map (fun i => (i.zero, i.size, i.bytes)) = some (some (.agg #[(.string ⟨#[]⟩), (.int .i64 0)]), 2, 24) := by kernel_rfl
theorem info128 : (Tryd.prog.info? 128).map (fun i => (i.zero, i.size, i.bytes)) = some (some (.int .u64 0), 1, 8) := by kernel_rfl
theorem info167 : (Tryd.prog.info? 167).map (fun i => (i.zero, i.size, i.bytes)) = some (some (.slice none 0 0), 1, 24) := by kernel_rfl
theorem info178 : (Tryd.prog.info? 178).map (fun i => (i.zero, i.size, i.bytes)) = some (some (.agg #[(.int .i64 0), (.int .i64 0), (.int .i64 0)]), 3, 24) := by kernel_rfl
structure S93 where
 f0 : Int
 f1 : Int
def z93 : S93 := ⟨(0 : Int), (0 : Int)⟩
def k93 : Kd S93 := Kd.iso (Kd.pair (Kd.int .i64) (Kd.int .i64)) (fun x : S93 => (x.f0, x.f1))
theorem k93_open {w : World} {x : S93} {cs : List Value} (h : k93.K w x cs) : cs = [.int .i64 x.f0, .int .i64 x.f1] := by
 obtain ⟨_, _, rfl, rfl, rfl⟩ := h; exact rfl
theorem k93_mkM (w : World) (base : Nat) (ok : Nat → Prop) (x : S93)  : k93.M w base ok x [.int .i64 x.f0, .int .i64 x.f1] := ⟨[.int .i64 x.f0], [.int .i64 x.f1], rfl, rfl, rfl⟩
def rd_T93 (xs : List S93) (i : Int) : S93 := xs.getD i.toNat z93
theorem at_T93 {w : World} {A : Option Addr} {n : Nat} {xs : List S93} (h : Kd.C k93 w A n xs) (i : Int) (h0 : 0 ≤ i) (h1 : i < n) : ∃ ad , A = some ad ∧ w.cell? (ad.add (i.toNat * 2)) = some (.int .i64 (rd_T93 xs i).f0) ∧ w.cell? ⟨(ad.add (i.toNat * 2)).block, (ad.add (i.toNat * 2)).off + 1, none⟩ = some (.int .i64 (rd_T93 xs i).f1) := by
 obtain ⟨ad, c, e, _, hK, hc0⟩ := Kd.C_get h z93 i h0 h1; have hc : ∀ j u, c[j]? = some u → w.cell? (ad.add (i.toNat * 2 + j)) = some u := hc0; obtain rfl := k93_open hK; exact ⟨ad, e, hc 0 _ rfl, by rw [← add_field _ _ 1 (by omega)]; exact hc 1 _ rfl⟩
def rd_L2 (xs : List (List S93)) (i : Int) : (List S93) := xs.getD i.toNat ([] : List S93)
theorem at_L2 {w : World} {A : Option Addr} {n : Nat} {xs : List (List S93)} (h : Kd.C (Kd.slice 93 k93) w A n xs) (i : Int) (h0 : 0 ≤ i) (h1 : i < n) : ∃ ad A0 c0, A = some ad ∧ w.cell? (ad.add i.toNat) = some (.slice A0 (rd_L2 xs i).length c0) ∧ (rd_L2 xs i).length ≤ c0 ∧ k93.C w A0 (rd_L2 xs i).length (rd_L2 xs i) := by
 obtain ⟨ad, c, e, _, hK, hc0⟩ := Kd.C_get h ([] : List S93) i h0 h1; have hc : ∀ j u, c[j]? = some u → w.cell? (ad.add (i.toNat * 1 + j)) = some u := hc0; obtain ⟨A0, c0, rfl, l0, g0⟩ := hK; exact ⟨ad, A0, c0, e, by have hq := hc 0 _ rfl; rwa [Nat.mul_one, Nat.add_zero] at hq, l0, g0⟩
def rd_L3 (xs : List (List Int)) (i : Int) : (List Int) := xs.getD i.toNat ([] : List Int)
theorem at_L3 {w : World} {A : Option Addr} {n : Nat} {xs : List (List Int)} (h : Kd.C (Kd.slice 3 (Kd.int .i64)) w A n xs) (i : Int) (h0 : 0 ≤ i) (h1 : i < n) : ∃ ad A0 c0, A = some ad ∧ w.cell? (ad.add i.toNat) = some (.slice A0 (rd_L3 xs i).length c0) ∧ (rd_L3 xs i).length ≤ c0 ∧ (Kd.int .i64).C w A0 (rd_L3 xs i).length (rd_L3 xs i) := by
 obtain ⟨ad, c, e, _, hK, hc0⟩ := Kd.C_get h ([] : List Int) i h0 h1; have hc : ∀ j u, c[j]? = some u → w.cell? (ad.add (i.toNat * 1 + j)) = some u := hc0; obtain ⟨A0, c0, rfl, l0, g0⟩ := hK; exact ⟨ad, A0, c0, e, by have hq := hc 0 _ rfl; rwa [Nat.mul_one, Nat.add_zero] at hq, l0, g0⟩
structure S110 where
 f0 : Int
 f1 : ByteArray
 f2 : ByteArray
def z110 : S110 := ⟨(0 : Int), (⟨#[]⟩ : ByteArray), (⟨#[]⟩ : ByteArray)⟩
def k110 : Kd S110 := Kd.iso (Kd.pair (Kd.int .i64) (Kd.pair Kd.string Kd.string)) (fun x : S110 => (x.f0, x.f1, x.f2))
theorem k110_open {w : World} {x : S110} {cs : List Value} (h : k110.K w x cs) : cs = [.int .i64 x.f0, .string x.f1, .string x.f2] := by
 obtain ⟨_, _, rfl, rfl, ⟨_, _, rfl, rfl, rfl⟩⟩ := h; exact rfl
theorem k110_mk (w : World) (x : S110)  : k110.K w x [.int .i64 x.f0, .string x.f1, .string x.f2] := ⟨[.int .i64 x.f0], [.string x.f1, .string x.f2], rfl, rfl, ⟨[.string x.f1], [.string x.f2], rfl, rfl, rfl⟩⟩
theorem k110_mkM (w : World) (base : Nat) (ok : Nat → Prop) (x : S110)  : k110.M w base ok x [.int .i64 x.f0, .string x.f1, .string x.f2] := ⟨[.int .i64 x.f0], [.string x.f1, .string x.f2], rfl, rfl, ⟨[.string x.f1], [.string x.f2], rfl, rfl, rfl⟩⟩
def zax (xs : List S110) (i : Int) : S110 := xs.getD i.toNat z110
theorem zbm {w : World} {A : Option Addr} {n : Nat} {xs : List S110} (h : Kd.C k110 w A n xs) (i : Int) (h0 : 0 ≤ i) (h1 : i < n) : ∃ ad , A = some ad ∧ w.cell? (ad.add (i.toNat * 3)) = some (.int .i64 (zax xs i).f0) ∧ w.cell? ⟨(ad.add (i.toNat * 3)).block, (ad.add (i.toNat * 3)).off + 1, none⟩ = some (.string (zax xs i).f1) ∧ w.cell? ⟨(ad.add (i.toNat * 3)).block, (ad.add (i.toNat * 3)).off + 2, none⟩ = some (.string (zax xs i).f2) := by
 obtain ⟨ad, c, e, _, hK, hc0⟩ := Kd.C_get h z110 i h0 h1; have hc : ∀ j u, c[j]? = some u → w.cell? (ad.add (i.toNat * 3 + j)) = some u := hc0; obtain rfl := k110_open hK; exact ⟨ad, e, hc 0 _ rfl, by rw [← add_field _ _ 1 (by omega)]; exact hc 1 _ rfl, by rw [← add_field _ _ 2 (by omega)]; exact hc 2 _ rfl⟩
structure S77 where
 f0 : Int
 f1 : (List S110)
def z77 : S77 := ⟨(0 : Int), ([] : List S110)⟩
def k77 : Kd S77 := Kd.iso (Kd.pair (Kd.int .i64) (Kd.slice 110 k110)) (fun x : S77 => (x.f0, x.f1))
theorem k77_open {w : World} {x : S77} {cs : List Value} (h : k77.K w x cs) : ∃ A1 c1, cs = [.int .i64 x.f0, .slice A1 x.f1.length c1] ∧ x.f1.length ≤ c1 ∧ k110.C w A1 x.f1.length x.f1 := by
 obtain ⟨_, _, rfl, rfl, ⟨A1, c1, rfl, l1, g1⟩⟩ := h; exact ⟨A1, c1, rfl, l1, g1⟩
theorem k77_mk (w : World) (x : S77) {A1 : Option Addr} {c1 : Nat} (l1 : x.f1.length ≤ c1) (g1 : k110.C w A1 x.f1.length x.f1) : k77.K w x [.int .i64 x.f0, .slice A1 x.f1.length c1] := ⟨[.int .i64 x.f0], [.slice A1 x.f1.length c1], rfl, rfl, ⟨A1, c1, rfl, l1, g1⟩⟩
def zal (xs : List S77) (i : Int) : S77 := xs.getD i.toNat z77
theorem at_T77 {w : World} {A : Option Addr} {n : Nat} {xs : List S77} (h : Kd.C k77 w A n xs) (i : Int) (h0 : 0 ≤ i) (h1 : i < n) : ∃ ad A1 c1, A = some ad ∧ w.cell? (ad.add (i.toNat * 2)) = some (.int .i64 (zal xs i).f0) ∧ w.cell? ⟨(ad.add (i.toNat * 2)).block, (ad.add (i.toNat * 2)).off + 1, none⟩ = some (.slice A1 (zal xs i).f1.length c1) ∧ (zal xs i).f1.length ≤ c1 ∧ k110.C w A1 (zal xs i).f1.length (zal xs i).f1 := by
 obtain ⟨ad, c, e, _, hK, hc0⟩ := Kd.C_get h z77 i h0 h1; have hc : ∀ j u, c[j]? = some u → w.cell? (ad.add (i.toNat * 2 + j)) = some u := hc0; obtain ⟨A1, c1, rfl, l1, g1⟩ := k77_open hK; exact ⟨ad, A1, c1, e, hc 0 _ rfl, by rw [← add_field _ _ 1 (by omega)]; exact hc 1 _ rfl, l1, g1⟩
structure S112 where
 f0 : ByteArray
 f1 : Bool
def z112 : S112 := ⟨(⟨#[]⟩ : ByteArray), false⟩
def k112 : Kd S112 := Kd.iso (Kd.pair Kd.string Kd.bool) (fun x : S112 => (x.f0, x.f1))
theorem k112_open {w : World} {x : S112} {cs : List Value} (h : k112.K w x cs) : cs = [.string x.f0, .bool x.f1] := by
 obtain ⟨_, _, rfl, rfl, rfl⟩ := h; exact rfl
theorem k112_mkM (w : World) (base : Nat) (ok : Nat → Prop) (x : S112)  : k112.M w base ok x [.string x.f0, .bool x.f1] := ⟨[.string x.f0], [.bool x.f1], rfl, rfl, rfl⟩
def rd_T112 (xs : List S112) (i : Int) : S112 := xs.getD i.toNat z112
theorem at_T112 {w : World} {A : Option Addr} {n : Nat} {xs : List S112} (h : Kd.C k112 w A n xs) (i : Int) (h0 : 0 ≤ i) (h1 : i < n) : ∃ ad , A = some ad ∧ w.cell? (ad.add (i.toNat * 2)) = some (.string (rd_T112 xs i).f0) ∧ w.cell? ⟨(ad.add (i.toNat * 2)).block, (ad.add (i.toNat * 2)).off + 1, none⟩ = some (.bool (rd_T112 xs i).f1) := by
 obtain ⟨ad, c, e, _, hK, hc0⟩ := Kd.C_get h z112 i h0 h1; have hc : ∀ j u, c[j]? = some u → w.cell? (ad.add (i.toNat * 2 + j)) = some u := hc0; obtain rfl := k112_open hK; exact ⟨ad, e, hc 0 _ rfl, by rw [← add_field _ _ 1 (by omega)]; exact hc 1 _ rfl⟩
structure S115 where
 f0 : ByteArray
 f1 : Int
def z115 : S115 := ⟨(⟨#[]⟩ : ByteArray), (0 : Int)⟩
def k115 : Kd S115 := Kd.iso (Kd.pair Kd.string (Kd.int .i64)) (fun x : S115 => (x.f0, x.f1))
theorem k115_open {w : World} {x : S115} {cs : List Value} (h : k115.K w x cs) : cs = [.string x.f0, .int .i64 x.f1] := by
 obtain ⟨_, _, rfl, rfl, rfl⟩ := h; exact rfl
theorem k115_mkM (w : World) (base : Nat) (ok : Nat → Prop) (x : S115)  : k115.M w base ok x [.string x.f0, .int .i64 x.f1] := ⟨[.string x.f0], [.int .i64 x.f1], rfl, rfl, rfl⟩
def rd_T115 (xs : List S115) (i : Int) : S115 := xs.getD i.toNat z115
theorem at_T115 {w : World} {A : Option Addr} {n : Nat} {xs : List S115} (h : Kd.C k115 w A n xs) (i : Int) (h0 : 0 ≤ i) (h1 : i < n) : ∃ ad , A = some ad ∧ w.cell? (ad.add (i.toNat * 2)) = some (.string (rd_T115 xs i).f0) ∧ w.cell? ⟨(ad.add (i.toNat * 2)).block, (ad.add (i.toNat * 2)).off + 1, none⟩ = some (.int .i64 (rd_T115 xs i).f1) := by
 obtain ⟨ad, c, e, _, hK, hc0⟩ := Kd.C_get h z115 i h0 h1; have hc : ∀ j u, c[j]? = some u → w.cell? (ad.add (i.toNat * 2 + j)) = some u := hc0; obtain rfl := k115_open hK; exact ⟨ad, e, hc 0 _ rfl, by rw [← add_field _ _ 1 (by omega)]; exact hc 1 _ rfl⟩
structure S166 where
 f0 : Int
 f1 : Int
def z166 : S166 := ⟨(0 : Int), (0 : Int)⟩
def k166 : Kd S166 := Kd.iso (Kd.pair (Kd.int .i64) (Kd.int .u64)) (fun x : S166 => (x.f0, x.f1))
theorem k166_open {w : World} {x : S166} {cs : List Value} (h : k166.K w x cs) : cs = [.int .i64 x.f0, .int .u64 x.f1] := by
 obtain ⟨_, _, rfl, rfl, rfl⟩ := h; exact rfl
theorem k166_mk (w : World) (x : S166)  : k166.K w x [.int .i64 x.f0, .int .u64 x.f1] := ⟨[.int .i64 x.f0], [.int .u64 x.f1], rfl, rfl, rfl⟩
def rd_T166 (xs : List S166) (i : Int) : S166 := xs.getD i.toNat z166
theorem at_T166 {w : World} {A : Option Addr} {n : Nat} {xs : List S166} (h : Kd.C k166 w A n xs) (i : Int) (h0 : 0 ≤ i) (h1 : i < n) : ∃ ad , A = some ad ∧ w.cell? (ad.add (i.toNat * 2)) = some (.int .i64 (rd_T166 xs i).f0) ∧ w.cell? ⟨(ad.add (i.toNat * 2)).block, (ad.add (i.toNat * 2)).off + 1, none⟩ = some (.int .u64 (rd_T166 xs i).f1) := by
 obtain ⟨ad, c, e, _, hK, hc0⟩ := Kd.C_get h z166 i h0 h1; have hc : ∀ j u, c[j]? = some u → w.cell? (ad.add (i.toNat * 2 + j)) = some u := hc0; obtain rfl := k166_open hK; exact ⟨ad, e, hc 0 _ rfl, by rw [← add_field _ _ 1 (by omega)]; exact hc 1 _ rfl⟩
structure S230 where
 f0 : Int
 f1 : Int
 f2 : Int
 f3 : Int
 f4 : Bool
def z230 : S230 := ⟨(0 : Int), (0 : Int), (0 : Int), (0 : Int), false⟩
def k230 : Kd S230 := Kd.iso (Kd.pair (Kd.int .i64) (Kd.pair (Kd.int .i64) (Kd.pair (Kd.int .i64) (Kd.pair (Kd.int .u64) Kd.bool)))) (fun x : S230 => (x.f0, x.f1, x.f2, x.f3, x.f4))
theorem k230_open {w : World} {x : S230} {cs : List Value} (h : k230.K w x cs) : cs = [.int .i64 x.f0, .int .i64 x.f1, .int .i64 x.f2, .int .u64 x.f3, .bool x.f4] := by
 obtain ⟨_, _, rfl, rfl, ⟨_, _, rfl, rfl, ⟨_, _, rfl, rfl, ⟨_, _, rfl, rfl, rfl⟩⟩⟩⟩ := h; exact rfl
theorem k230_openM {w : World} {base : Nat} {ok : Nat → Prop} {x : S230} {cs : List Value} (h : k230.M w base ok x cs) : cs = [.int .i64 x.f0, .int .i64 x.f1, .int .i64 x.f2, .int .u64 x.f3, .bool x.f4] := by
 obtain ⟨_, _, rfl, rfl, ⟨_, _, rfl, rfl, ⟨_, _, rfl, rfl, ⟨_, _, rfl, rfl, rfl⟩⟩⟩⟩ := h; exact rfl
theorem k230_mk (w : World) (x : S230)  : k230.K w x [.int .i64 x.f0, .int .i64 x.f1, .int .i64 x.f2, .int .u64 x.f3, .bool x.f4] := ⟨[.int .i64 x.f0], [.int .i64 x.f1, .int .i64 x.f2, .int .u64 x.f3, .bool x.f4], rfl, rfl, ⟨[.int .i64 x.f1], [.int .i64 x.f2, .int .u64 x.f3, .bool x.f4], rfl, rfl, ⟨[.int .i64 x.f2], [.int .u64 x.f3, .bool x.f4], rfl, rfl, ⟨[.int .u64 x.f3], [.bool x.f4], rfl, rfl, rfl⟩⟩⟩⟩
theorem k230_mkM (w : World) (base : Nat) (ok : Nat → Prop) (x : S230)  : k230.M w base ok x [.int .i64 x.f0, .int .i64 x.f1, .int .i64 x.f2, .int .u64 x.f3, .bool x.f4] := ⟨[.int .i64 x.f0], [.int .i64 x.f1, .int .i64 x.f2, .int .u64 x.f3, .bool x.f4], rfl, rfl, ⟨[.int .i64 x.f1], [.int .i64 x.f2, .int .u64 x.f3, .bool x.f4], rfl, rfl, ⟨[.int .i64 x.f2], [.int .u64 x.f3, .bool x.f4], rfl, rfl, ⟨[.int .u64 x.f3], [.bool x.f4], rfl, rfl, rfl⟩⟩⟩⟩
def rd_T230 (xs : List S230) (i : Int) : S230 := xs.getD i.toNat z230
theorem at_T230 {w : World} {A : Option Addr} {n : Nat} {xs : List S230} (h : Kd.C k230 w A n xs) (i : Int) (h0 : 0 ≤ i) (h1 : i < n) : ∃ ad , A = some ad ∧ w.cell? (ad.add (i.toNat * 5)) = some (.int .i64 (rd_T230 xs i).f0) ∧ w.cell? ⟨(ad.add (i.toNat * 5)).block, (ad.add (i.toNat * 5)).off + 1, none⟩ = some (.int .i64 (rd_T230 xs i).f1) ∧ w.cell? ⟨(ad.add (i.toNat * 5)).block, (ad.add (i.toNat * 5)).off + 2, none⟩ = some (.int .i64 (rd_T230 xs i).f2) ∧ w.cell? ⟨(ad.add (i.toNat * 5)).block, (ad.add (i.toNat * 5)).off + 3, none⟩ = some (.int .u64 (rd_T230 xs i).f3) ∧ w.cell? ⟨(ad.add (i.toNat * 5)).block, (ad.add (i.toNat * 5)).off + 4, none⟩ = some (.bool (rd_T230 xs i).f4) := by
 obtain ⟨ad, c, e, _, hK, hc0⟩ := Kd.C_get h z230 i h0 h1; have hc : ∀ j u, c[j]? = some u → w.cell? (ad.add (i.toNat * 5 + j)) = some u := hc0; obtain rfl := k230_open hK; exact ⟨ad, e, hc 0 _ rfl, by rw [← add_field _ _ 1 (by omega)]; exact hc 1 _ rfl, by rw [← add_field _ _ 2 (by omega)]; exact hc 2 _ rfl, by rw [← add_field _ _ 3 (by omega)]; exact hc 3 _ rfl, by rw [← add_field _ _ 4 (by omega)]; exact hc 4 _ rfl⟩
structure S178 where
 f0 : Int
 f1 : Int
 f2 : Int
def z178 : S178 := ⟨(0 : Int), (0 : Int), (0 : Int)⟩
def k178 : Kd S178 := Kd.iso (Kd.pair (Kd.int .i64) (Kd.pair (Kd.int .i64) (Kd.int .i64))) (fun x : S178 => (x.f0, x.f1, x.f2))
theorem k178_open {w : World} {x : S178} {cs : List Value} (h : k178.K w x cs) : cs = [.int .i64 x.f0, .int .i64 x.f1, .int .i64 x.f2] := by
 obtain ⟨_, _, rfl, rfl, ⟨_, _, rfl, rfl, rfl⟩⟩ := h; exact rfl
theorem k178_mk (w : World) (x : S178)  : k178.K w x [.int .i64 x.f0, .int .i64 x.f1, .int .i64 x.f2] := ⟨[.int .i64 x.f0], [.int .i64 x.f1, .int .i64 x.f2], rfl, rfl, ⟨[.int .i64 x.f1], [.int .i64 x.f2], rfl, rfl, rfl⟩⟩
def zaq (xs : List S178) (i : Int) : S178 := xs.getD i.toNat z178
theorem at_T178 {w : World} {A : Option Addr} {n : Nat} {xs : List S178} (h : Kd.C k178 w A n xs) (i : Int) (h0 : 0 ≤ i) (h1 : i < n) : ∃ ad , A = some ad ∧ w.cell? (ad.add (i.toNat * 3)) = some (.int .i64 (zaq xs i).f0) ∧ w.cell? ⟨(ad.add (i.toNat * 3)).block, (ad.add (i.toNat * 3)).off + 1, none⟩ = some (.int .i64 (zaq xs i).f1) ∧ w.cell? ⟨(ad.add (i.toNat * 3)).block, (ad.add (i.toNat * 3)).off + 2, none⟩ = some (.int .i64 (zaq xs i).f2) := by
 obtain ⟨ad, c, e, _, hK, hc0⟩ := Kd.C_get h z178 i h0 h1; have hc : ∀ j u, c[j]? = some u → w.cell? (ad.add (i.toNat * 3 + j)) = some u := hc0; obtain rfl := k178_open hK; exact ⟨ad, e, hc 0 _ rfl, by rw [← add_field _ _ 1 (by omega)]; exact hc 1 _ rfl, by rw [← add_field _ _ 2 (by omega)]; exact hc 2 _ rfl⟩
attribute [local go_sem] max2_int min2_int max_two min_two max_three min_three max_four min_four
def first_symbols.l0 : Nat → List (S110) → Int → Int → List (S112) → List (S115) → List (S77) → Option (Bool)
 | 0, _, _, _, _, _, _ => none
 | k + 1, x7, x8, x9, x173000, x173001, x173002 => if x9 < x8 then (if 0 ≤ x9 then (if x9 < (x7.length : Int) then (if ((zax x7 x9).f0) < 0 then (some false) else (if ((zax x7 x9).f0) ≥ (wrap64 ((x173000.length : Int) + (x173001.length : Int))) then (some false) else (first_symbols.l0 k x7 x8 (wrap64 (x9 + 1)) x173000 x173001 x173002))) else (none)) else (none)) else (some true)
def first_symbols.f (k : Nat) (l0_0 : List (S112)) (l0_1 : List (S115)) (l0_2 : List (S77)) (l1 : List (S110)) : Option (Bool) := first_symbols.l0 k l1 (l1.length : Int) 0 l0_0 l0_1 l0_2
set_option maxHeartbeats 8000000 in
set_option maxRecDepth 100000 in
theorem first_symbols.calls (k : Nat) (A0_0 : Option Addr) (c0_0 : Nat) (l0_0 : List (S112)) (A0_1 : Option Addr) (c0_1 : Nat) (l0_1 : List (S115)) (A0_2 : Option Addr) (c0_2 : Nat) (l0_2 : List (S77)) (A1 : Option Addr) (c1 : Nat) (l1 : List (S110)) (r : Bool) (w : World) (hr0_0 : Kd.C k112 w A0_0 l0_0.length l0_0) (hc0_0 : l0_0.length ≤ c0_0) (hr0_1 : Kd.C k115 w A0_1 l0_1.length l0_1) (hc0_1 : l0_1.length ≤ c0_1) (hr0_2 : Kd.C k77 w A0_2 l0_2.length l0_2) (hc0_2 : l0_2.length ≤ c0_2) (hr1 : Kd.C k110 w A1 l1.length l1) (hc1 : l1.length ≤ c1) (h : first_symbols.f k l0_0 l0_1 l0_2 l1 = some r) :
  Calls Tryd.prog 130 #[.agg #[.slice A0_0 l0_0.length c0_0, .slice A0_1 l0_1.length c0_1, .slice A0_2 l0_2.length c0_2], .slice A1 l1.length c1] w fun e w' => e = .returned (.bool r) ∧ Below w.heap.size w w' := by
 have hu51 := Tryd.underlying51; have hu110 := Tryd.underlying110; have HR0_0 := zaj.mk hr0_0; have HC0_0 := zaj.mk hc0_0; clear hr0_0 hc0_0; have HR0_1 := zaj.mk hr0_1; have HC0_1 := zaj.mk hc0_1; clear hr0_1 hc0_1; have HR0_2 := zaj.mk hr0_2; have HC0_2 := zaj.mk hc0_2; clear hr0_2 hc0_2; have HR1 := zaj.mk hr1; have HC1 := zaj.mk hc1; clear hr1 hc1; have HB := zaj.mk (Below.refl w.heap.size w); have H : (first_symbols.l0 k l1 (l1.length : Int) 0 l0_0 l0_1 l0_2) = some r := h; clear h; have H' := zaj.mk H; clear H
 go_enter Tryd.func130, Tryd.ntmps130
 go_wp2_with (first | ((with_reducible refine zbg (N := 2) rfl ?_); (try (refine zaz (by rfl) ?_; dsimp only)); refine zbe ?hg (N := 2) ?hd (cs := #[.slice A0_0 l0_0.length c0_0, .slice A0_1 l0_1.length c0_1, .slice A0_2 l0_2.length c0_2]) (t := 51) ?hr ?_; (case hd => rfl); (case hg => rfl); (case hr => first | (go_simp; done) | (go_simp; rfl)); intro gb172 hg w3 hbox hb; have n0_ := zaj.mk (zam (by repeat (first | (with_reducible first | exact HB.out | apply zac | apply zab | apply below_drew1) | exact HB.out)) hb); have n1_ := zaj.mk (hbox); have n2_ := zaj.mk ((by rw [hg]; exact (zao (by repeat (first | (with_reducible first | exact HB.out | apply zac | apply zab | apply below_drew1) | exact HB.out))) : w.heap.size ≤ gb172)); have n3_ := zaj.mk ((by rw [hg]; exact (zao (by repeat (first | (with_reducible first | exact HB.out | apply zac | apply zab | apply below_drew1) | exact HB.out))) : w.heap.size ≤ gb172)); clear HB; have HB := n0_; have BK172 := n1_; have GW172 := n2_; have GE172 := n3_; clear n0_ n1_ n2_ n3_; clear hb hbox hg))
 go_loopg [9] k (fun kq v9 w' => ∃ (x9_1 : Int), v9 = .int .i64 x9_1 ∧ zaj (first_symbols.l0 kq l1 (l1.length : Int) x9_1 l0_0 l0_1 l0_2 = some r) ∧ zaj (kq ≤ k) ∧ zaj (w'.heap[gb172]? = some (.cells #[(.slice A0_0 l0_0.length c0_0), (.slice A0_1 l0_1.length c0_1), (.slice A0_2 l0_2.length c0_2)] 51 (0, 0))) ∧ zaj (Below w.heap.size w w'))
 case atStart => exact ⟨(0), (by first | rfl | (simp; done) | (simp [*]; done)), H', ⟨Nat.le_refl _⟩, ⟨by (with_reducible repeat (first | apply zai | apply zah | apply zad)); exact BK172.out⟩, ⟨by repeat (first | (with_reducible first | exact HB.out | apply zac | apply zab | apply below_drew1 | refine zaf ?_ GE172.out) | exact HB.out)⟩⟩
 case round =>
  clear H'
  try clear c1
  try clear p2
  obtain ⟨x9_1, rfl, HA, HK1, BK172, HB⟩ := hrel; cases gk with
  | zero => exact absurd HA.out (by simp [first_symbols.l0])
  | succ k1 =>
   have H := HA.out; clear HA; simp only [first_symbols.l0] at H; by_cases c4 : x9_1 < (l1.length : Int)
   ·rw [if_pos c4] at H; have c4b0 : decide (x9_1 < (l1.length : Int)) = true := decide_eq_true c4; clear c4; by_cases c5 : 0 ≤ x9_1
    ·rw [if_pos c5] at H; have c5b0 : decide (0 ≤ x9_1) = true := decide_eq_true c5; clear c5; by_cases c6 : x9_1 < (l1.length : Int)
     ·rw [if_pos c6] at H; have c6b0 : decide (x9_1 < (l1.length : Int)) = true := decide_eq_true c6; clear c6; by_cases c7 : ((zax l1 x9_1).f0) < 0
      ·rw [if_pos c7] at H; have c7b0 : decide (((zax l1 x9_1).f0) < 0) = true := decide_eq_true c7; clear c7; obtain rfl := Option.some.inj H; have p173 : 0 ≤ (x9_1 : Int) := of_decide_eq_true (by first | (with_reducible assumption) | assumption)
       have q173 : x9_1 < (l1.length : Int) := of_decide_eq_true (by first | (with_reducible assumption) | assumption)
       obtain ⟨ad173, e173, hx173_0, hx173_1, hx173_2⟩ := zbm HR1.out x9_1 p173 q173; cases e173; replace hx173_0 := (HB.out.cell (World.block_lt_of_cell? w _ hx173_0)).trans hx173_0; replace hx173_1 := (HB.out.cell (World.block_lt_of_cell? w _ hx173_1)).trans hx173_1; replace hx173_2 := (HB.out.cell (World.block_lt_of_cell? w _ hx173_2)).trans hx173_2; replace p173 := eq_true p173; replace q173 := eq_true q173
       go_wp2_with (first | ((with_reducible refine zbg (N := 6) rfl ?_); (try (refine zaz (by rfl) ?_; dsimp only)); refine zbe ?hg (N := 6) ?hd (cs := #[.int .i64 0, .string (⟨#[]⟩ : ByteArray), .string (⟨#[]⟩ : ByteArray)]) (t := 110) ?hr ?_; (case hd => rfl); (case hg => rfl); (case hr => first | (go_simp; done) | (go_simp; rfl)); intro gb174 hg w8 hbox hb; have n0_ := zaj.mk (zak (g := gb172) (o := .cells #[.slice A0_0 l0_0.length c0_0, .slice A0_1 l0_1.length c0_1, .slice A0_2 l0_2.length c0_2] 51 (0, 0)) (by (with_reducible repeat (first | apply zai | apply zah | apply zad)); exact BK172.out) hb); have n1_ := zaj.mk (zam (by repeat (first | (with_reducible first | exact HB.out | apply zac | apply zab | apply below_drew1 | refine zaf ?_ GE172.out) | exact HB.out)) hb); have n2_ := zaj.mk (hbox); have n3_ := zaj.mk ((by rw [hg]; exact (zao (by repeat (first | (with_reducible first | exact HB.out | apply zac | apply zab | apply below_drew1 | refine zaf ?_ GE172.out) | exact HB.out))) : w.heap.size ≤ gb174)); have n4_ := zaj.mk ((by rw [hg]; exact (zao (by repeat (first | (with_reducible first | exact HB.out | apply zac | apply zab | apply below_drew1 | refine zaf ?_ GE172.out) | exact HB.out))) : w.heap.size ≤ gb174)); have n5_ := zaj.mk ((by rw [hg]; exact Nat.ne_of_lt (zba (g := gb172) (o := .cells #[.slice A0_0 l0_0.length c0_0, .slice A0_1 l0_1.length c0_1, .slice A0_2 l0_2.length c0_2] 51 (0, 0)) (by (with_reducible repeat (first | apply zai | apply zah | apply zad)); exact BK172.out)) : gb172 ≠ gb174)); have n6_ := zaj.mk ((by rw [hg]; exact Nat.ne_of_gt (zba (g := gb172) (o := .cells #[.slice A0_0 l0_0.length c0_0, .slice A0_1 l0_1.length c0_1, .slice A0_2 l0_2.length c0_2] 51 (0, 0)) (by (with_reducible repeat (first | apply zai | apply zah | apply zad)); exact BK172.out)) : gb174 ≠ gb172)); clear BK172; clear HB; have BK172 := n0_; have HB := n1_; have BK174 := n2_; have GW174 := n3_; have GE174 := n4_; have NB172_174 := n5_; have NB174_172 := n6_; clear n0_ n1_ n2_ n3_ n4_ n5_ n6_; clear hb hbox hg; have hnb9 := NB174_172.out; have hnc9 := NB172_174.out; have hcz10_0 : w8.cell? ⟨gb174, 0, none⟩ = some (.int .i64 0) := (zaa BK174.out 0).trans rfl; have hcz10_1 : w8.cell? ⟨gb174, 1, none⟩ = some (.string (⟨#[]⟩ : ByteArray)) := (zaa BK174.out 1).trans rfl; have hcz10_2 : w8.cell? ⟨gb174, 2, none⟩ = some (.string (⟨#[]⟩ : ByteArray)) := (zaa BK174.out 2).trans rfl; have hfz10_0 := zae BK174.out 0; have hfz10_1 := zae BK174.out 1; have hfz10_2 := zae BK174.out 2))
       go_ret; exact ⟨by first | rfl | (simp [errW_none, errW_some] <;> rfl) | (simp [*, errW_none, errW_some] <;> rfl), by repeat (first | (with_reducible first | exact HB.out | apply zac | apply zab | apply below_drew1 | refine zaf ?_ GE172.out | refine zaf ?_ GE174.out) | exact HB.out)⟩
      ·rw [if_neg c7] at H; have c7b0 : decide (((zax l1 x9_1).f0) < 0) = false := decide_eq_false c7; clear c7; by_cases c11 : ((zax l1 x9_1).f0) ≥ (wrap64 ((l0_0.length : Int) + (l0_1.length : Int)))
       ·rw [if_pos c11] at H; have c11b0 : decide ((wrap64 ((l0_0.length : Int) + (l0_1.length : Int))) ≤ ((zax l1 x9_1).f0)) = true := decide_eq_true c11; clear c11; obtain rfl := Option.some.inj H; have p173 : 0 ≤ (x9_1 : Int) := of_decide_eq_true (by first | (with_reducible assumption) | assumption)
        have q173 : x9_1 < (l1.length : Int) := of_decide_eq_true (by first | (with_reducible assumption) | assumption)
        obtain ⟨ad173, e173, hx173_0, hx173_1, hx173_2⟩ := zbm HR1.out x9_1 p173 q173; cases e173; replace hx173_0 := (HB.out.cell (World.block_lt_of_cell? w _ hx173_0)).trans hx173_0; replace hx173_1 := (HB.out.cell (World.block_lt_of_cell? w _ hx173_1)).trans hx173_1; replace hx173_2 := (HB.out.cell (World.block_lt_of_cell? w _ hx173_2)).trans hx173_2; replace p173 := eq_true p173; replace q173 := eq_true q173
        go_wp2_with (first | ((with_reducible refine zbg (N := 6) rfl ?_); (try (refine zaz (by rfl) ?_; dsimp only)); refine zbe ?hg (N := 6) ?hd (cs := #[.int .i64 0, .string (⟨#[]⟩ : ByteArray), .string (⟨#[]⟩ : ByteArray)]) (t := 110) ?hr ?_; (case hd => rfl); (case hg => rfl); (case hr => first | (go_simp; done) | (go_simp; rfl)); intro gb174 hg w12 hbox hb; have n0_ := zaj.mk (zak (g := gb172) (o := .cells #[.slice A0_0 l0_0.length c0_0, .slice A0_1 l0_1.length c0_1, .slice A0_2 l0_2.length c0_2] 51 (0, 0)) (by (with_reducible repeat (first | apply zai | apply zah | apply zad)); exact BK172.out) hb); have n1_ := zaj.mk (zam (by repeat (first | (with_reducible first | exact HB.out | apply zac | apply zab | apply below_drew1 | refine zaf ?_ GE172.out) | exact HB.out)) hb); have n2_ := zaj.mk (hbox); have n3_ := zaj.mk ((by rw [hg]; exact (zao (by repeat (first | (with_reducible first | exact HB.out | apply zac | apply zab | apply below_drew1 | refine zaf ?_ GE172.out) | exact HB.out))) : w.heap.size ≤ gb174)); have n4_ := zaj.mk ((by rw [hg]; exact (zao (by repeat (first | (with_reducible first | exact HB.out | apply zac | apply zab | apply below_drew1 | refine zaf ?_ GE172.out) | exact HB.out))) : w.heap.size ≤ gb174)); have n5_ := zaj.mk ((by rw [hg]; exact Nat.ne_of_lt (zba (g := gb172) (o := .cells #[.slice A0_0 l0_0.length c0_0, .slice A0_1 l0_1.length c0_1, .slice A0_2 l0_2.length c0_2] 51 (0, 0)) (by (with_reducible repeat (first | apply zai | apply zah | apply zad)); exact BK172.out)) : gb172 ≠ gb174)); have n6_ := zaj.mk ((by rw [hg]; exact Nat.ne_of_gt (zba (g := gb172) (o := .cells #[.slice A0_0 l0_0.length c0_0, .slice A0_1 l0_1.length c0_1, .slice A0_2 l0_2.length c0_2] 51 (0, 0)) (by (with_reducible repeat (first | apply zai | apply zah | apply zad)); exact BK172.out)) : gb174 ≠ gb172)); clear BK172; clear HB; have BK172 := n0_; have HB := n1_; have BK174 := n2_; have GW174 := n3_; have GE174 := n4_; have NB172_174 := n5_; have NB174_172 := n6_; clear n0_ n1_ n2_ n3_ n4_ n5_ n6_; clear hb hbox hg; have hnb13 := NB174_172.out; have hnc13 := NB172_174.out; have hcz14_0 : w12.cell? ⟨gb174, 0, none⟩ = some (.int .i64 0) := (zaa BK174.out 0).trans rfl; have hcz14_1 : w12.cell? ⟨gb174, 1, none⟩ = some (.string (⟨#[]⟩ : ByteArray)) := (zaa BK174.out 1).trans rfl; have hcz14_2 : w12.cell? ⟨gb174, 2, none⟩ = some (.string (⟨#[]⟩ : ByteArray)) := (zaa BK174.out 2).trans rfl; have hfz14_0 := zae BK174.out 0; have hfz14_1 := zae BK174.out 1; have hfz14_2 := zae BK174.out 2; have hcz15_0 : w12.cell? ⟨gb172, 0, none⟩ = some (.slice A0_0 l0_0.length c0_0) := (zaa BK172.out 0).trans rfl; have hcz15_1 : w12.cell? ⟨gb172, 1, none⟩ = some (.slice A0_1 l0_1.length c0_1) := (zaa BK172.out 1).trans rfl; have hcz15_2 : w12.cell? ⟨gb172, 2, none⟩ = some (.slice A0_2 l0_2.length c0_2) := (zaa BK172.out 2).trans rfl; have hfz15_0 := zae BK172.out 0; have hfz15_1 := zae BK172.out 1; have hfz15_2 := zae BK172.out 2))
        go_ret; exact ⟨by first | rfl | (simp [errW_none, errW_some] <;> rfl) | (simp [*, errW_none, errW_some] <;> rfl), by repeat (first | (with_reducible first | exact HB.out | apply zac | apply zab | apply below_drew1 | refine zaf ?_ GE172.out | refine zaf ?_ GE174.out) | exact HB.out)⟩
       ·rw [if_neg c11] at H; have c11b0 : decide ((wrap64 ((l0_0.length : Int) + (l0_1.length : Int))) ≤ ((zax l1 x9_1).f0)) = false := decide_eq_false c11; clear c11; have H' := zaj.mk H; clear H; have p173 : 0 ≤ (x9_1 : Int) := of_decide_eq_true (by first | (with_reducible assumption) | assumption)
        have q173 : x9_1 < (l1.length : Int) := of_decide_eq_true (by first | (with_reducible assumption) | assumption)
        obtain ⟨ad173, e173, hx173_0, hx173_1, hx173_2⟩ := zbm HR1.out x9_1 p173 q173; cases e173; replace hx173_0 := (HB.out.cell (World.block_lt_of_cell? w _ hx173_0)).trans hx173_0; replace hx173_1 := (HB.out.cell (World.block_lt_of_cell? w _ hx173_1)).trans hx173_1; replace hx173_2 := (HB.out.cell (World.block_lt_of_cell? w _ hx173_2)).trans hx173_2; replace p173 := eq_true p173; replace q173 := eq_true q173
        go_wp2_with (first | ((with_reducible refine zbg (N := 6) rfl ?_); (try (refine zaz (by rfl) ?_; dsimp only)); refine zbe ?hg (N := 6) ?hd (cs := #[.int .i64 0, .string (⟨#[]⟩ : ByteArray), .string (⟨#[]⟩ : ByteArray)]) (t := 110) ?hr ?_; (case hd => rfl); (case hg => rfl); (case hr => first | (go_simp; done) | (go_simp; rfl)); intro gb174 hg w16 hbox hb; have n0_ := zaj.mk (zak (g := gb172) (o := .cells #[.slice A0_0 l0_0.length c0_0, .slice A0_1 l0_1.length c0_1, .slice A0_2 l0_2.length c0_2] 51 (0, 0)) (by (with_reducible repeat (first | apply zai | apply zah | apply zad)); exact BK172.out) hb); have n1_ := zaj.mk (zam (by repeat (first | (with_reducible first | exact HB.out | apply zac | apply zab | apply below_drew1 | refine zaf ?_ GE172.out) | exact HB.out)) hb); have n2_ := zaj.mk (hbox); have n3_ := zaj.mk ((by rw [hg]; exact (zao (by repeat (first | (with_reducible first | exact HB.out | apply zac | apply zab | apply below_drew1 | refine zaf ?_ GE172.out) | exact HB.out))) : w.heap.size ≤ gb174)); have n4_ := zaj.mk ((by rw [hg]; exact (zao (by repeat (first | (with_reducible first | exact HB.out | apply zac | apply zab | apply below_drew1 | refine zaf ?_ GE172.out) | exact HB.out))) : w.heap.size ≤ gb174)); have n5_ := zaj.mk ((by rw [hg]; exact Nat.ne_of_lt (zba (g := gb172) (o := .cells #[.slice A0_0 l0_0.length c0_0, .slice A0_1 l0_1.length c0_1, .slice A0_2 l0_2.length c0_2] 51 (0, 0)) (by (with_reducible repeat (first | apply zai | apply zah | apply zad)); exact BK172.out)) : gb172 ≠ gb174)); have n6_ := zaj.mk ((by rw [hg]; exact Nat.ne_of_gt (zba (g := gb172) (o := .cells #[.slice A0_0 l0_0.length c0_0, .slice A0_1 l0_1.length c0_1, .slice A0_2 l0_2.length c0_2] 51 (0, 0)) (by (with_reducible repeat (first | apply zai | apply zah | apply zad)); exact BK172.out)) : gb174 ≠ gb172)); clear BK172; clear HB; have BK172 := n0_; have HB := n1_; have BK174 := n2_; have GW174 := n3_; have GE174 := n4_; have NB172_174 := n5_; have NB174_172 := n6_; clear n0_ n1_ n2_ n3_ n4_ n5_ n6_; clear hb hbox hg; have hnb17 := NB174_172.out; have hnc17 := NB172_174.out; have hcz18_0 : w16.cell? ⟨gb174, 0, none⟩ = some (.int .i64 0) := (zaa BK174.out 0).trans rfl; have hcz18_1 : w16.cell? ⟨gb174, 1, none⟩ = some (.string (⟨#[]⟩ : ByteArray)) := (zaa BK174.out 1).trans rfl; have hcz18_2 : w16.cell? ⟨gb174, 2, none⟩ = some (.string (⟨#[]⟩ : ByteArray)) := (zaa BK174.out 2).trans rfl; have hfz18_0 := zae BK174.out 0; have hfz18_1 := zae BK174.out 1; have hfz18_2 := zae BK174.out 2; have hcz19_0 : w16.cell? ⟨gb172, 0, none⟩ = some (.slice A0_0 l0_0.length c0_0) := (zaa BK172.out 0).trans rfl; have hcz19_1 : w16.cell? ⟨gb172, 1, none⟩ = some (.slice A0_1 l0_1.length c0_1) := (zaa BK172.out 1).trans rfl; have hcz19_2 : w16.cell? ⟨gb172, 2, none⟩ = some (.slice A0_2 l0_2.length c0_2) := (zaa BK172.out 2).trans rfl; have hfz19_0 := zae BK172.out 0; have hfz19_1 := zae BK172.out 1; have hfz19_2 := zae BK172.out 2))
        go_roundg k1
        case measure => have := HK1.out; omega
        case rel => exact ⟨(wrap64 (x9_1 + 1)), (by first | rfl | (simp; done) | (simp [*]; done)), H', ⟨by have := HK1.out; omega⟩, ⟨by (with_reducible repeat (first | apply zai | apply zah | apply zad)); refine zar ?_ NB172_174.out _; (with_reducible repeat (first | apply zai | apply zah | apply zad)); refine zar ?_ NB172_174.out _; (with_reducible repeat (first | apply zai | apply zah | apply zad)); refine zar ?_ NB172_174.out _; (with_reducible repeat (first | apply zai | apply zah | apply zad)); exact BK172.out⟩, ⟨by repeat (first | (with_reducible first | exact HB.out | apply zac | apply zab | apply below_drew1 | refine zaf ?_ GE172.out | refine zaf ?_ GE174.out) | exact HB.out)⟩⟩
     ·rw [if_neg c6] at H; exact absurd H (by simp)
    ·rw [if_neg c5] at H; exact absurd H (by simp)
   ·rw [if_neg c4] at H; have c4b0 : decide (x9_1 < (l1.length : Int)) = false := decide_eq_false c4; clear c4; obtain rfl := Option.some.inj H; go_wp2; go_ret; exact ⟨by first | rfl | (simp [errW_none, errW_some] <;> rfl) | (simp [*, errW_none, errW_some] <;> rfl), by repeat (first | (with_reducible first | exact HB.out | apply zac | apply zab | apply below_drew1 | refine zaf ?_ GE172.out) | exact HB.out)⟩
mutual
def first_sound.j0 : Nat → Bool → List (S112) → List (S115) → List (S77) → Option (Bool)
 | 0, _, _, _, _ => none
 | k + 1, x20, x176000, x176001, x176002 => if x20 = true then (some false) else (first_sound.l0 k x176002 (x176002.length : Int) 0 x176000 x176001 x176002)
def first_sound.l0 : Nat → List (S77) → Int → Int → List (S112) → List (S115) → List (S77) → Option (Bool)
 | 0, _, _, _, _, _, _ => none
 | k + 1, x22, x23, x24, x176000, x176001, x176002 => if x24 < x23 then (if 0 ≤ x24 then (if x24 < (x22.length : Int) then (if ((zal x22 x24).f0) < (-1) then (some false) else (if ((zal x22 x24).f0) ≥ (x176001.length : Int) then (some false) else ((first_symbols.f k x176000 x176001 x176002 ((zal x22 x24).f1)).bind fun t178 => (if t178 = true then (first_sound.l0 k x22 x23 (wrap64 (x24 + 1)) x176000 x176001 x176002) else (some false))))) else (none)) else (none)) else (some true)
end
def first_sound.f (k : Nat) (l0_0 : List (S112)) (l0_1 : List (S115)) (l0_2 : List (S77)) : Option (Bool) := if (l0_0.length : Int) < 1 then (first_sound.j0 k true l0_0 l0_1 l0_2) else (if (l0_0.length : Int) > 64 then (first_sound.j0 k true l0_0 l0_1 l0_2) else (first_sound.j0 k (decide ((l0_1.length : Int) > 128)) l0_0 l0_1 l0_2))
set_option maxHeartbeats 8000000 in
set_option maxRecDepth 100000 in
theorem first_sound.calls (k : Nat) (A0_0 : Option Addr) (c0_0 : Nat) (l0_0 : List (S112)) (A0_1 : Option Addr) (c0_1 : Nat) (l0_1 : List (S115)) (A0_2 : Option Addr) (c0_2 : Nat) (l0_2 : List (S77)) (r : Bool) (w : World) (hr0_0 : Kd.C k112 w A0_0 l0_0.length l0_0) (hc0_0 : l0_0.length ≤ c0_0) (hr0_1 : Kd.C k115 w A0_1 l0_1.length l0_1) (hc0_1 : l0_1.length ≤ c0_1) (hr0_2 : Kd.C k77 w A0_2 l0_2.length l0_2) (hc0_2 : l0_2.length ≤ c0_2) (h : first_sound.f k l0_0 l0_1 l0_2 = some r) :
  Calls Tryd.prog 118 #[.agg #[.slice A0_0 l0_0.length c0_0, .slice A0_1 l0_1.length c0_1, .slice A0_2 l0_2.length c0_2]] w fun e w' => e = .returned (.bool r) ∧ Below w.heap.size w w' := by
 have hu51 := Tryd.underlying51; have hu77 := Tryd.underlying77; have HR0_0 := zaj.mk hr0_0; have HC0_0 := zaj.mk hc0_0; clear hr0_0 hc0_0; have HR0_1 := zaj.mk hr0_1; have HC0_1 := zaj.mk hc0_1; clear hr0_1 hc0_1; have HR0_2 := zaj.mk hr0_2; have HC0_2 := zaj.mk hc0_2; clear hr0_2 hc0_2; have HB := zaj.mk (Below.refl w.heap.size w); have H : (if (l0_0.length : Int) < 1 then (first_sound.j0 k true l0_0 l0_1 l0_2) else (if (l0_0.length : Int) > 64 then (first_sound.j0 k true l0_0 l0_1 l0_2) else (first_sound.j0 k (decide ((l0_1.length : Int) > 128)) l0_0 l0_1 l0_2))) = some r := h
 clear h; have HC2 := zaj.mk H; clear H
 go_enter Tryd.func118, Tryd.ntmps118
 go_upto_region 2 with (first | ((with_reducible refine zbg (N := 1) rfl ?_); (try (refine zaz (by rfl) ?_; dsimp only)); refine zbe ?hg (N := 1) ?hd (cs := #[.slice A0_0 l0_0.length c0_0, .slice A0_1 l0_1.length c0_1, .slice A0_2 l0_2.length c0_2]) (t := 51) ?hr ?_; (case hd => rfl); (case hg => rfl); (case hr => first | (go_simp; done) | (go_simp; rfl)); intro gb175 hg w3 hbox hb; have n0_ := zaj.mk (zam (by repeat (first | (with_reducible first | exact HB.out | apply zac | apply zab | apply below_drew1) | exact HB.out)) hb); have n1_ := zaj.mk (hbox); have n2_ := zaj.mk ((by rw [hg]; exact (zao (by repeat (first | (with_reducible first | exact HB.out | apply zac | apply zab | apply below_drew1) | exact HB.out))) : w.heap.size ≤ gb175)); have n3_ := zaj.mk ((by rw [hg]; exact (zao (by repeat (first | (with_reducible first | exact HB.out | apply zac | apply zab | apply below_drew1) | exact HB.out))) : w.heap.size ≤ gb175)); clear HB; have HB := n0_; have BK175 := n1_; have GW175 := n2_; have GE175 := n3_; clear n0_ n1_ n2_ n3_; clear hb hbox hg; have hcz4_0 : w3.cell? ⟨gb175, 0, none⟩ = some (.slice A0_0 l0_0.length c0_0) := (zaa BK175.out 0).trans rfl; have hcz4_1 : w3.cell? ⟨gb175, 1, none⟩ = some (.slice A0_1 l0_1.length c0_1) := (zaa BK175.out 1).trans rfl; have hcz4_2 : w3.cell? ⟨gb175, 2, none⟩ = some (.slice A0_2 l0_2.length c0_2) := (zaa BK175.out 2).trans rfl; have hfz4_0 := zae BK175.out 0; have hfz4_1 := zae BK175.out 1; have hfz4_2 := zae BK175.out 2))
 (try simp only [Act.put, List.setIfInBounds_toArray, List.set_cons_zero, List.set_cons_succ])
 go_cut [20] (fun v20 wc => ∃ (kq : Nat) (x20_1 : Bool), v20 = .bool x20_1 ∧ zaj (first_sound.j0 kq x20_1 l0_0 l0_1 l0_2 = some r) ∧ zaj (kq ≤ k) ∧ zaj (wc.heap[gb175]? = some (.cells #[(.slice A0_0 l0_0.length c0_0), (.slice A0_1 l0_1.length c0_1), (.slice A0_2 l0_2.length c0_2)] 51 (0, 0))) ∧ zaj (Below w.heap.size w wc))
 case first =>
  have H := HC2.out; clear HC2; by_cases c5 : (l0_0.length : Int) < 1
  ·rw [if_pos c5] at H; have c5b0 : decide ((l0_0.length : Int) < 1) = true := decide_eq_true c5; have c5b1 : decide (l0_0.length < 1) = true := decide_eq_true (by omega)
   clear c5
   (first | rw [c5b0] | (simp only [i64_w, i32_w]; rw [c5b0]) | skip)
   have H' := zaj.mk H; clear H; go_wp2
   go_meet
   case rel => exact ⟨_, (true), (by first | rfl | (simp; done) | (simp [*]; done)), H', ⟨by first | omega | exact Nat.le_refl _⟩, ⟨by (with_reducible repeat (first | apply zai | apply zah | apply zad)); exact BK175.out⟩, ⟨by repeat (first | (with_reducible first | exact HB.out | apply zac | apply zab | apply below_drew1 | refine zaf ?_ GE175.out) | exact HB.out)⟩⟩
  ·rw [if_neg c5] at H; have c5b0 : decide ((l0_0.length : Int) < 1) = false := decide_eq_false c5; have c5b1 : decide (l0_0.length < 1) = false := decide_eq_false (by omega)
   clear c5
   (first | rw [c5b0] | (simp only [i64_w, i32_w]; rw [c5b0]) | skip)
   by_cases c6 : (l0_0.length : Int) > 64
   ·rw [if_pos c6] at H; have c6b0 : decide (64 < (l0_0.length : Int)) = true := decide_eq_true c6; have c6b1 : decide (64 < l0_0.length) = true := decide_eq_true (by omega)
    clear c6; have H' := zaj.mk H; clear H; go_wp2
    go_meet
    case rel => exact ⟨_, (true), (by first | rfl | (simp; done) | (simp [*]; done)), H', ⟨by first | omega | exact Nat.le_refl _⟩, ⟨by (with_reducible repeat (first | apply zai | apply zah | apply zad)); exact BK175.out⟩, ⟨by repeat (first | (with_reducible first | exact HB.out | apply zac | apply zab | apply below_drew1 | refine zaf ?_ GE175.out) | exact HB.out)⟩⟩
   ·rw [if_neg c6] at H; have c6b0 : decide (64 < (l0_0.length : Int)) = false := decide_eq_false c6; have c6b1 : decide (64 < l0_0.length) = false := decide_eq_false (by omega)
    clear c6; have H' := zaj.mk H; clear H; have hcz7_0 : w3.cell? ⟨gb175, 0, none⟩ = some (.slice A0_0 l0_0.length c0_0) := (zaa BK175.out 0).trans rfl; have hcz7_1 : w3.cell? ⟨gb175, 1, none⟩ = some (.slice A0_1 l0_1.length c0_1) := (zaa BK175.out 1).trans rfl; have hcz7_2 : w3.cell? ⟨gb175, 2, none⟩ = some (.slice A0_2 l0_2.length c0_2) := (zaa BK175.out 2).trans rfl; have hfz7_0 := zae BK175.out 0; have hfz7_1 := zae BK175.out 1; have hfz7_2 := zae BK175.out 2; go_wp2
    go_meet
    case rel => exact ⟨_, (decide ((l0_1.length : Int) > 128)), (by first | rfl | (simp; done) | (simp [*]; done)), H', ⟨by first | omega | exact Nat.le_refl _⟩, ⟨by (with_reducible repeat (first | apply zai | apply zah | apply zad)); exact BK175.out⟩, ⟨by repeat (first | (with_reducible first | exact HB.out | apply zac | apply zab | apply below_drew1 | refine zaf ?_ GE175.out) | exact HB.out)⟩⟩
 case rest =>
  clear HC2
  try clear c1
  try clear p2
  try clear c5
  try clear c5b0
  try clear c5b1
  try clear c6
  try clear c6b0
  try clear c6b1
  try clear hcz4_0
  try clear hcz4_1
  try clear hcz4_2
  try clear hcz7_0
  try clear hcz7_1
  try clear hcz7_2
  try clear hfz4_0
  try clear hfz4_1
  try clear hfz4_2
  try clear hfz7_0
  try clear hfz7_1
  try clear hfz7_2
  obtain ⟨kq, x20_1, rfl, HA, HJ1, BK175, HB⟩ := hcut; cases kq with
  | zero => exact absurd HA.out (by simp [first_sound.j0])
  | succ kj1 =>
   have H := HA.out; clear HA; simp only [first_sound.j0] at H; by_cases c8 : x20_1 = true
   ·subst c8; have H1 : (some false) = some r := by rw [if_pos rfl] at H; exact H
    clear H; have H := H1; clear H1; obtain rfl := Option.some.inj H; go_wp2; go_ret; exact ⟨by first | rfl | (simp [errW_none, errW_some] <;> rfl) | (simp [*, errW_none, errW_some] <;> rfl), by repeat (first | (with_reducible first | exact HB.out | apply zac | apply zab | apply below_drew1 | refine zaf ?_ GE175.out) | exact HB.out)⟩
   ·replace c8 := Bool.eq_false_iff.mpr c8; subst c8; have H1 : (first_sound.l0 kj1 l0_2 (l0_2.length : Int) 0 l0_0 l0_1 l0_2) = some r := by rw [if_neg (show ¬ (false = true) by decide)] at H; exact H
    clear H; have H := H1; clear H1; have H' := zaj.mk H; clear H; have hcz9_0 : wc.cell? ⟨gb175, 0, none⟩ = some (.slice A0_0 l0_0.length c0_0) := (zaa BK175.out 0).trans rfl; have hcz9_1 : wc.cell? ⟨gb175, 1, none⟩ = some (.slice A0_1 l0_1.length c0_1) := (zaa BK175.out 1).trans rfl; have hcz9_2 : wc.cell? ⟨gb175, 2, none⟩ = some (.slice A0_2 l0_2.length c0_2) := (zaa BK175.out 2).trans rfl; have hfz9_0 := zae BK175.out 0; have hfz9_1 := zae BK175.out 1; have hfz9_2 := zae BK175.out 2; go_wp2
    go_loopg [24] kj1 (fun kq v24 w' => ∃ (x24_2 : Int), v24 = .int .i64 x24_2 ∧ zaj (first_sound.l0 kq l0_2 (l0_2.length : Int) x24_2 l0_0 l0_1 l0_2 = some r) ∧ zaj (kq ≤ kj1) ∧ zaj (w'.heap[gb175]? = some (.cells #[(.slice A0_0 l0_0.length c0_0), (.slice A0_1 l0_1.length c0_1), (.slice A0_2 l0_2.length c0_2)] 51 (0, 0))) ∧ zaj (Below w.heap.size w w'))
    case atStart => exact ⟨(0), (by first | rfl | (simp; done) | (simp [*]; done)), H', ⟨Nat.le_refl _⟩, ⟨by (with_reducible repeat (first | apply zai | apply zah | apply zad)); exact BK175.out⟩, ⟨by repeat (first | (with_reducible first | exact HB.out | apply zac | apply zab | apply below_drew1 | refine zaf ?_ GE175.out) | exact HB.out)⟩⟩
    case round =>
     clear H'
     try clear c1
     try clear p2
     try clear c5
     try clear c5b0
     try clear c5b1
     try clear c6
     try clear c6b0
     try clear c6b1
     try clear c8
     try clear hcz4_0
     try clear hcz4_1
     try clear hcz4_2
     try clear hcz7_0
     try clear hcz7_1
     try clear hcz7_2
     try clear hcz9_0
     try clear hcz9_1
     try clear hcz9_2
     try clear hfz4_0
     try clear hfz4_1
     try clear hfz4_2
     try clear hfz7_0
     try clear hfz7_1
     try clear hfz7_2
     try clear hfz9_0
     try clear hfz9_1
     try clear hfz9_2
     try clear p2
     obtain ⟨x24_2, rfl, HA, HK2, BK175, HB⟩ := hrel; cases gk with
     | zero => exact absurd HA.out (by simp [first_sound.l0])
     | succ k2 =>
      have H := HA.out; clear HA; simp only [first_sound.l0] at H; by_cases c10 : x24_2 < (l0_2.length : Int)
      ·rw [if_pos c10] at H; have c10b0 : decide (x24_2 < (l0_2.length : Int)) = true := decide_eq_true c10; clear c10; by_cases c11 : 0 ≤ x24_2
       ·rw [if_pos c11] at H; have c11b0 : decide (0 ≤ x24_2) = true := decide_eq_true c11; clear c11; by_cases c12 : x24_2 < (l0_2.length : Int)
        ·rw [if_pos c12] at H; have c12b0 : decide (x24_2 < (l0_2.length : Int)) = true := decide_eq_true c12; clear c12; by_cases c13 : ((zal l0_2 x24_2).f0) < (-1)
         ·rw [if_pos c13] at H; have c13b0 : decide (((zal l0_2 x24_2).f0) < (-1)) = true := decide_eq_true c13; clear c13; obtain rfl := Option.some.inj H; have p176 : 0 ≤ (x24_2 : Int) := of_decide_eq_true (by first | (with_reducible assumption) | assumption)
          have q176 : x24_2 < (l0_2.length : Int) := of_decide_eq_true (by first | (with_reducible assumption) | assumption)
          obtain ⟨ad176, A176_1, c176_1, e176, hx176_0, hx176_1, hl176_1, hi176_1⟩ := at_T77 HR0_2.out x24_2 p176 q176; cases e176; replace hx176_0 := (HB.out.cell (World.block_lt_of_cell? w _ hx176_0)).trans hx176_0; replace hx176_1 := (HB.out.cell (World.block_lt_of_cell? w _ hx176_1)).trans hx176_1; have HR176_1 := zaj.mk hi176_1; have HC176_1 := zaj.mk hl176_1; clear hi176_1 hl176_1; replace p176 := eq_true p176; replace q176 := eq_true q176
          go_wp2_with (first | ((with_reducible refine zbg (N := 5) rfl ?_); (try (refine zaz (by rfl) ?_; dsimp only)); refine zbe ?hg (N := 5) ?hd (cs := #[.int .i64 0, .slice none 0 0]) (t := 77) ?hr ?_; (case hd => rfl); (case hg => rfl); (case hr => first | (go_simp; done) | (go_simp; rfl)); intro gb177 hg w14 hbox hb; have n0_ := zaj.mk (zak (g := gb175) (o := .cells #[.slice A0_0 l0_0.length c0_0, .slice A0_1 l0_1.length c0_1, .slice (some ad176) l0_2.length c0_2] 51 (0, 0)) (by (with_reducible repeat (first | apply zai | apply zah | apply zad)); exact BK175.out) hb); have n1_ := zaj.mk (zam (by repeat (first | (with_reducible first | exact HB.out | apply zac | apply zab | apply below_drew1 | refine zaf ?_ GE175.out) | exact HB.out)) hb); have n2_ := zaj.mk (hbox); have n3_ := zaj.mk ((by rw [hg]; exact (zao (by repeat (first | (with_reducible first | exact HB.out | apply zac | apply zab | apply below_drew1 | refine zaf ?_ GE175.out) | exact HB.out))) : w.heap.size ≤ gb177)); have n4_ := zaj.mk ((by rw [hg]; exact (zao (by repeat (first | (with_reducible first | exact HB.out | apply zac | apply zab | apply below_drew1 | refine zaf ?_ GE175.out) | exact HB.out))) : w.heap.size ≤ gb177)); have n5_ := zaj.mk ((by rw [hg]; exact Nat.ne_of_lt (zba (g := gb175) (o := .cells #[.slice A0_0 l0_0.length c0_0, .slice A0_1 l0_1.length c0_1, .slice (some ad176) l0_2.length c0_2] 51 (0, 0)) (by (with_reducible repeat (first | apply zai | apply zah | apply zad)); exact BK175.out)) : gb175 ≠ gb177)); have n6_ := zaj.mk ((by rw [hg]; exact Nat.ne_of_gt (zba (g := gb175) (o := .cells #[.slice A0_0 l0_0.length c0_0, .slice A0_1 l0_1.length c0_1, .slice (some ad176) l0_2.length c0_2] 51 (0, 0)) (by (with_reducible repeat (first | apply zai | apply zah | apply zad)); exact BK175.out)) : gb177 ≠ gb175)); clear BK175; clear HB; have BK175 := n0_; have HB := n1_; have BK177 := n2_; have GW177 := n3_; have GE177 := n4_; have NB175_177 := n5_; have NB177_175 := n6_; clear n0_ n1_ n2_ n3_ n4_ n5_ n6_; clear hb hbox hg; have hnb15 := NB177_175.out; have hnc15 := NB175_177.out; have hcz16_0 : w14.cell? ⟨gb177, 0, none⟩ = some (.int .i64 0) := (zaa BK177.out 0).trans rfl; have hcz16_1 : w14.cell? ⟨gb177, 1, none⟩ = some (.slice none 0 0) := (zaa BK177.out 1).trans rfl; have hfz16_0 := zae BK177.out 0; have hfz16_1 := zae BK177.out 1))
          go_ret; exact ⟨by first | rfl | (simp [errW_none, errW_some] <;> rfl) | (simp [*, errW_none, errW_some] <;> rfl), by repeat (first | (with_reducible first | exact HB.out | apply zac | apply zab | apply below_drew1 | refine zaf ?_ GE175.out | refine zaf ?_ GE177.out) | exact HB.out)⟩
         ·rw [if_neg c13] at H; have c13b0 : decide (((zal l0_2 x24_2).f0) < (-1)) = false := decide_eq_false c13; clear c13; by_cases c17 : ((zal l0_2 x24_2).f0) ≥ (l0_1.length : Int)
          ·rw [if_pos c17] at H; have c17b0 : decide ((l0_1.length : Int) ≤ ((zal l0_2 x24_2).f0)) = true := decide_eq_true c17; clear c17; obtain rfl := Option.some.inj H; have p176 : 0 ≤ (x24_2 : Int) := of_decide_eq_true (by first | (with_reducible assumption) | assumption)
           have q176 : x24_2 < (l0_2.length : Int) := of_decide_eq_true (by first | (with_reducible assumption) | assumption)
           obtain ⟨ad176, A176_1, c176_1, e176, hx176_0, hx176_1, hl176_1, hi176_1⟩ := at_T77 HR0_2.out x24_2 p176 q176; cases e176; replace hx176_0 := (HB.out.cell (World.block_lt_of_cell? w _ hx176_0)).trans hx176_0; replace hx176_1 := (HB.out.cell (World.block_lt_of_cell? w _ hx176_1)).trans hx176_1; have HR176_1 := zaj.mk hi176_1; have HC176_1 := zaj.mk hl176_1; clear hi176_1 hl176_1; replace p176 := eq_true p176; replace q176 := eq_true q176
           go_wp2_with (first | ((with_reducible refine zbg (N := 5) rfl ?_); (try (refine zaz (by rfl) ?_; dsimp only)); refine zbe ?hg (N := 5) ?hd (cs := #[.int .i64 0, .slice none 0 0]) (t := 77) ?hr ?_; (case hd => rfl); (case hg => rfl); (case hr => first | (go_simp; done) | (go_simp; rfl)); intro gb177 hg w18 hbox hb; have n0_ := zaj.mk (zak (g := gb175) (o := .cells #[.slice A0_0 l0_0.length c0_0, .slice A0_1 l0_1.length c0_1, .slice (some ad176) l0_2.length c0_2] 51 (0, 0)) (by (with_reducible repeat (first | apply zai | apply zah | apply zad)); exact BK175.out) hb); have n1_ := zaj.mk (zam (by repeat (first | (with_reducible first | exact HB.out | apply zac | apply zab | apply below_drew1 | refine zaf ?_ GE175.out) | exact HB.out)) hb); have n2_ := zaj.mk (hbox); have n3_ := zaj.mk ((by rw [hg]; exact (zao (by repeat (first | (with_reducible first | exact HB.out | apply zac | apply zab | apply below_drew1 | refine zaf ?_ GE175.out) | exact HB.out))) : w.heap.size ≤ gb177)); have n4_ := zaj.mk ((by rw [hg]; exact (zao (by repeat (first | (with_reducible first | exact HB.out | apply zac | apply zab | apply below_drew1 | refine zaf ?_ GE175.out) | exact HB.out))) : w.heap.size ≤ gb177)); have n5_ := zaj.mk ((by rw [hg]; exact Nat.ne_of_lt (zba (g := gb175) (o := .cells #[.slice A0_0 l0_0.length c0_0, .slice A0_1 l0_1.length c0_1, .slice (some ad176) l0_2.length c0_2] 51 (0, 0)) (by (with_reducible repeat (first | apply zai | apply zah | apply zad)); exact BK175.out)) : gb175 ≠ gb177)); have n6_ := zaj.mk ((by rw [hg]; exact Nat.ne_of_gt (zba (g := gb175) (o := .cells #[.slice A0_0 l0_0.length c0_0, .slice A0_1 l0_1.length c0_1, .slice (some ad176) l0_2.length c0_2] 51 (0, 0)) (by (with_reducible repeat (first | apply zai | apply zah | apply zad)); exact BK175.out)) : gb177 ≠ gb175)); clear BK175; clear HB; have BK175 := n0_; have HB := n1_; have BK177 := n2_; have GW177 := n3_; have GE177 := n4_; have NB175_177 := n5_; have NB177_175 := n6_; clear n0_ n1_ n2_ n3_ n4_ n5_ n6_; clear hb hbox hg; have hnb19 := NB177_175.out; have hnc19 := NB175_177.out; have hcz20_0 : w18.cell? ⟨gb177, 0, none⟩ = some (.int .i64 0) := (zaa BK177.out 0).trans rfl; have hcz20_1 : w18.cell? ⟨gb177, 1, none⟩ = some (.slice none 0 0) := (zaa BK177.out 1).trans rfl; have hfz20_0 := zae BK177.out 0; have hfz20_1 := zae BK177.out 1; have hcz21_0 : w18.cell? ⟨gb175, 0, none⟩ = some (.slice A0_0 l0_0.length c0_0) := (zaa BK175.out 0).trans rfl; have hcz21_1 : w18.cell? ⟨gb175, 1, none⟩ = some (.slice A0_1 l0_1.length c0_1) := (zaa BK175.out 1).trans rfl; have hcz21_2 : w18.cell? ⟨gb175, 2, none⟩ = some (.slice (some ad176) l0_2.length c0_2) := (zaa BK175.out 2).trans rfl; have hfz21_0 := zae BK175.out 0; have hfz21_1 := zae BK175.out 1; have hfz21_2 := zae BK175.out 2))
           go_ret; exact ⟨by first | rfl | (simp [errW_none, errW_some] <;> rfl) | (simp [*, errW_none, errW_some] <;> rfl), by repeat (first | (with_reducible first | exact HB.out | apply zac | apply zab | apply below_drew1 | refine zaf ?_ GE175.out | refine zaf ?_ GE177.out) | exact HB.out)⟩
          ·rw [if_neg c17] at H; have c17b0 : decide ((l0_1.length : Int) ≤ ((zal l0_2 x24_2).f0)) = false := decide_eq_false c17; clear c17; replace H := Option.bind_eq_some_iff.mp H; obtain ⟨t178, A220, H⟩ := H; replace H : (if t178 = true then (first_sound.l0 k2 l0_2 (l0_2.length : Int) (wrap64 (x24_2 + 1)) l0_0 l0_1 l0_2) else (some false)) = some r := H
           have A22 := zaj.mk A220; clear A220; by_cases c23 : t178 = true
           ·subst c23; have H1 : (first_sound.l0 k2 l0_2 (l0_2.length : Int) (wrap64 (x24_2 + 1)) l0_0 l0_1 l0_2) = some r := by rw [if_pos rfl] at H; exact H
            clear H; have H := H1; clear H1; have H' := zaj.mk H; clear H; have p176 : 0 ≤ (x24_2 : Int) := of_decide_eq_true (by first | (with_reducible assumption) | assumption)
            have q176 : x24_2 < (l0_2.length : Int) := of_decide_eq_true (by first | (with_reducible assumption) | assumption)
            obtain ⟨ad176, A176_1, c176_1, e176, hx176_0, hx176_1, hl176_1, hi176_1⟩ := at_T77 HR0_2.out x24_2 p176 q176; cases e176; replace hx176_0 := (HB.out.cell (World.block_lt_of_cell? w _ hx176_0)).trans hx176_0; replace hx176_1 := (HB.out.cell (World.block_lt_of_cell? w _ hx176_1)).trans hx176_1; have HR176_1 := zaj.mk hi176_1; have HC176_1 := zaj.mk hl176_1; clear hi176_1 hl176_1; replace p176 := eq_true p176; replace q176 := eq_true q176
            go_wp2_with (first | ((with_reducible refine zbg (N := 5) rfl ?_); (try (refine zaz (by rfl) ?_; dsimp only)); refine zbe ?hg (N := 5) ?hd (cs := #[.int .i64 0, .slice none 0 0]) (t := 77) ?hr ?_; (case hd => rfl); (case hg => rfl); (case hr => first | (go_simp; done) | (go_simp; rfl)); intro gb177 hg w24 hbox hb; have n0_ := zaj.mk (zak (g := gb175) (o := .cells #[.slice A0_0 l0_0.length c0_0, .slice A0_1 l0_1.length c0_1, .slice (some ad176) l0_2.length c0_2] 51 (0, 0)) (by (with_reducible repeat (first | apply zai | apply zah | apply zad)); exact BK175.out) hb); have n1_ := zaj.mk (zam (by repeat (first | (with_reducible first | exact HB.out | apply zac | apply zab | apply below_drew1 | refine zaf ?_ GE175.out) | exact HB.out)) hb); have n2_ := zaj.mk (hbox); have n3_ := zaj.mk ((by rw [hg]; exact (zao (by repeat (first | (with_reducible first | exact HB.out | apply zac | apply zab | apply below_drew1 | refine zaf ?_ GE175.out) | exact HB.out))) : w.heap.size ≤ gb177)); have n4_ := zaj.mk ((by rw [hg]; exact (zao (by repeat (first | (with_reducible first | exact HB.out | apply zac | apply zab | apply below_drew1 | refine zaf ?_ GE175.out) | exact HB.out))) : w.heap.size ≤ gb177)); have n5_ := zaj.mk ((by rw [hg]; exact Nat.ne_of_lt (zba (g := gb175) (o := .cells #[.slice A0_0 l0_0.length c0_0, .slice A0_1 l0_1.length c0_1, .slice (some ad176) l0_2.length c0_2] 51 (0, 0)) (by (with_reducible repeat (first | apply zai | apply zah | apply zad)); exact BK175.out)) : gb175 ≠ gb177)); have n6_ := zaj.mk ((by rw [hg]; exact Nat.ne_of_gt (zba (g := gb175) (o := .cells #[.slice A0_0 l0_0.length c0_0, .slice A0_1 l0_1.length c0_1, .slice (some ad176) l0_2.length c0_2] 51 (0, 0)) (by (with_reducible repeat (first | apply zai | apply zah | apply zad)); exact BK175.out)) : gb177 ≠ gb175)); clear BK175; clear HB; have BK175 := n0_; have HB := n1_; have BK177 := n2_; have GW177 := n3_; have GE177 := n4_; have NB175_177 := n5_; have NB177_175 := n6_; clear n0_ n1_ n2_ n3_ n4_ n5_ n6_; clear hb hbox hg; have hnb25 := NB177_175.out; have hnc25 := NB175_177.out; have hcz26_0 : w24.cell? ⟨gb177, 0, none⟩ = some (.int .i64 0) := (zaa BK177.out 0).trans rfl; have hcz26_1 : w24.cell? ⟨gb177, 1, none⟩ = some (.slice none 0 0) := (zaa BK177.out 1).trans rfl; have hfz26_0 := zae BK177.out 0; have hfz26_1 := zae BK177.out 1; have hcz27_0 : w24.cell? ⟨gb175, 0, none⟩ = some (.slice A0_0 l0_0.length c0_0) := (zaa BK175.out 0).trans rfl; have hcz27_1 : w24.cell? ⟨gb175, 1, none⟩ = some (.slice A0_1 l0_1.length c0_1) := (zaa BK175.out 1).trans rfl; have hcz27_2 : w24.cell? ⟨gb175, 2, none⟩ = some (.slice (some ad176) l0_2.length c0_2) := (zaa BK175.out 2).trans rfl; have hfz27_0 := zae BK175.out 0; have hfz27_1 := zae BK175.out 1; have hfz27_2 := zae BK175.out 2) | (go_at_call 130; (with_reducible refine (first_symbols.calls k2 _ _ l0_0 _ _ l0_1 _ _ l0_2 _ _ ((zal l0_2 x24_2).f1) true _ ?side1 ?side2 ?side3 ?side4 ?side5 ?side6 ?side7 ?side8 A22.out).mono ?_); (case side1 => exact Kd.zav HR0_0.out (by repeat (first | (with_reducible first | exact HB.out | apply zac | apply zab | apply below_drew1 | refine zaf ?_ GE175.out | refine zaf ?_ GE177.out) | exact HB.out))); (case side2 => exact HC0_0.out); (case side3 => exact Kd.zav HR0_1.out (by repeat (first | (with_reducible first | exact HB.out | apply zac | apply zab | apply below_drew1 | refine zaf ?_ GE175.out | refine zaf ?_ GE177.out) | exact HB.out))); (case side4 => exact HC0_1.out); (case side5 => exact Kd.zav HR0_2.out (by repeat (first | (with_reducible first | exact HB.out | apply zac | apply zab | apply below_drew1 | refine zaf ?_ GE175.out | refine zaf ?_ GE177.out) | exact HB.out))); (case side6 => exact HC0_2.out); (case side7 => exact Kd.zav HR176_1.out (by repeat (first | (with_reducible first | exact HB.out | apply zac | apply zab | apply below_drew1 | refine zaf ?_ GE175.out | refine zaf ?_ GE177.out) | exact HB.out))); (case side8 => exact HC176_1.out); rintro e w28 ⟨rfl, hb⟩; have n0_ := zaj.mk (zak (g := gb175) (o := .cells #[.slice A0_0 l0_0.length c0_0, .slice A0_1 l0_1.length c0_1, .slice (some ad176) l0_2.length c0_2] 51 (0, 0)) (by (with_reducible repeat (first | apply zai | apply zah | apply zad)); refine zar ?_ NB175_177.out _; (with_reducible repeat (first | apply zai | apply zah | apply zad)); refine zar ?_ NB175_177.out _; (with_reducible repeat (first | apply zai | apply zah | apply zad)); exact BK175.out) hb); have n1_ := zaj.mk (zak (g := gb177) (o := .cells #[.int .i64 ((zal l0_2 x24_2).f0), .slice A176_1 ((zal l0_2 x24_2).f1).length c176_1] 77 (0, 0)) (by (with_reducible repeat (first | apply zai | apply zah | apply zad)); refine zat (cs := #[.int .i64 ((zal l0_2 x24_2).f0), .slice none 0 0]) ?_ 1 _ rfl; (with_reducible repeat (first | apply zai | apply zah | apply zad)); refine zat (cs := #[.int .i64 0, .slice none 0 0]) ?_ 0 _ rfl; (with_reducible repeat (first | apply zai | apply zah | apply zad)); exact BK177.out) hb); have n2_ := zaj.mk (zam (by repeat (first | (with_reducible first | exact HB.out | apply zac | apply zab | apply below_drew1 | refine zaf ?_ GE175.out | refine zaf ?_ GE177.out) | exact HB.out)) hb); clear BK175; clear BK177; clear HB; have BK175 := n0_; have BK177 := n1_; have HB := n2_; clear n0_ n1_ n2_; (try clear hb); (try clear hb2); (try clear hk); (try clear hi)))
            go_roundg k2
            case measure => have := HJ1.out; have := HK2.out; omega
            case rel => exact ⟨(wrap64 (x24_2 + 1)), (by first | rfl | (simp; done) | (simp [*]; done)), H', ⟨by have := HJ1.out; have := HK2.out; omega⟩, ⟨by (with_reducible repeat (first | apply zai | apply zah | apply zad)); exact BK175.out⟩, ⟨by repeat (first | (with_reducible first | exact HB.out | apply zac | apply zab | apply below_drew1 | refine zaf ?_ GE175.out | refine zaf ?_ GE177.out) | exact HB.out)⟩⟩
           ·replace c23 := Bool.eq_false_iff.mpr c23; subst c23; have H1 : (some false) = some r := by rw [if_neg (show ¬ (false = true) by decide)] at H; exact H
            clear H; have H := H1; clear H1; obtain rfl := Option.some.inj H; have p176 : 0 ≤ (x24_2 : Int) := of_decide_eq_true (by first | (with_reducible assumption) | assumption)
            have q176 : x24_2 < (l0_2.length : Int) := of_decide_eq_true (by first | (with_reducible assumption) | assumption)
            obtain ⟨ad176, A176_1, c176_1, e176, hx176_0, hx176_1, hl176_1, hi176_1⟩ := at_T77 HR0_2.out x24_2 p176 q176; cases e176; replace hx176_0 := (HB.out.cell (World.block_lt_of_cell? w _ hx176_0)).trans hx176_0; replace hx176_1 := (HB.out.cell (World.block_lt_of_cell? w _ hx176_1)).trans hx176_1; have HR176_1 := zaj.mk hi176_1; have HC176_1 := zaj.mk hl176_1; clear hi176_1 hl176_1; replace p176 := eq_true p176; replace q176 := eq_true q176
            go_wp2_with (first | ((with_reducible refine zbg (N := 5) rfl ?_); (try (refine zaz (by rfl) ?_; dsimp only)); refine zbe ?hg (N := 5) ?hd (cs := #[.int .i64 0, .slice none 0 0]) (t := 77) ?hr ?_; (case hd => rfl); (case hg => rfl); (case hr => first | (go_simp; done) | (go_simp; rfl)); intro gb177 hg w29 hbox hb; have n0_ := zaj.mk (zak (g := gb175) (o := .cells #[.slice A0_0 l0_0.length c0_0, .slice A0_1 l0_1.length c0_1, .slice (some ad176) l0_2.length c0_2] 51 (0, 0)) (by (with_reducible repeat (first | apply zai | apply zah | apply zad)); exact BK175.out) hb); have n1_ := zaj.mk (zam (by repeat (first | (with_reducible first | exact HB.out | apply zac | apply zab | apply below_drew1 | refine zaf ?_ GE175.out) | exact HB.out)) hb); have n2_ := zaj.mk (hbox); have n3_ := zaj.mk ((by rw [hg]; exact (zao (by repeat (first | (with_reducible first | exact HB.out | apply zac | apply zab | apply below_drew1 | refine zaf ?_ GE175.out) | exact HB.out))) : w.heap.size ≤ gb177)); have n4_ := zaj.mk ((by rw [hg]; exact (zao (by repeat (first | (with_reducible first | exact HB.out | apply zac | apply zab | apply below_drew1 | refine zaf ?_ GE175.out) | exact HB.out))) : w.heap.size ≤ gb177)); have n5_ := zaj.mk ((by rw [hg]; exact Nat.ne_of_lt (zba (g := gb175) (o := .cells #[.slice A0_0 l0_0.length c0_0, .slice A0_1 l0_1.length c0_1, .slice (some ad176) l0_2.length c0_2] 51 (0, 0)) (by (with_reducible repeat (first | apply zai | apply zah | apply zad)); exact BK175.out)) : gb175 ≠ gb177)); have n6_ := zaj.mk ((by rw [hg]; exact Nat.ne_of_gt (zba (g := gb175) (o := .cells #[.slice A0_0 l0_0.length c0_0, .slice A0_1 l0_1.length c0_1, .slice (some ad176) l0_2.length c0_2] 51 (0, 0)) (by (with_reducible repeat (first | apply zai | apply zah | apply zad)); exact BK175.out)) : gb177 ≠ gb175)); clear BK175; clear HB; have BK175 := n0_; have HB := n1_; have BK177 := n2_; have GW177 := n3_; have GE177 := n4_; have NB175_177 := n5_; have NB177_175 := n6_; clear n0_ n1_ n2_ n3_ n4_ n5_ n6_; clear hb hbox hg; have hnb30 := NB177_175.out; have hnc30 := NB175_177.out; have hcz31_0 : w29.cell? ⟨gb177, 0, none⟩ = some (.int .i64 0) := (zaa BK177.out 0).trans rfl; have hcz31_1 : w29.cell? ⟨gb177, 1, none⟩ = some (.slice none 0 0) := (zaa BK177.out 1).trans rfl; have hfz31_0 := zae BK177.out 0; have hfz31_1 := zae BK177.out 1; have hcz32_0 : w29.cell? ⟨gb175, 0, none⟩ = some (.slice A0_0 l0_0.length c0_0) := (zaa BK175.out 0).trans rfl; have hcz32_1 : w29.cell? ⟨gb175, 1, none⟩ = some (.slice A0_1 l0_1.length c0_1) := (zaa BK175.out 1).trans rfl; have hcz32_2 : w29.cell? ⟨gb175, 2, none⟩ = some (.slice (some ad176) l0_2.length c0_2) := (zaa BK175.out 2).trans rfl; have hfz32_0 := zae BK175.out 0; have hfz32_1 := zae BK175.out 1; have hfz32_2 := zae BK175.out 2) | (go_at_call 130; (with_reducible refine (first_symbols.calls k2 _ _ l0_0 _ _ l0_1 _ _ l0_2 _ _ ((zal l0_2 x24_2).f1) false _ ?side1 ?side2 ?side3 ?side4 ?side5 ?side6 ?side7 ?side8 A22.out).mono ?_); (case side1 => exact Kd.zav HR0_0.out (by repeat (first | (with_reducible first | exact HB.out | apply zac | apply zab | apply below_drew1 | refine zaf ?_ GE175.out | refine zaf ?_ GE177.out) | exact HB.out))); (case side2 => exact HC0_0.out); (case side3 => exact Kd.zav HR0_1.out (by repeat (first | (with_reducible first | exact HB.out | apply zac | apply zab | apply below_drew1 | refine zaf ?_ GE175.out | refine zaf ?_ GE177.out) | exact HB.out))); (case side4 => exact HC0_1.out); (case side5 => exact Kd.zav HR0_2.out (by repeat (first | (with_reducible first | exact HB.out | apply zac | apply zab | apply below_drew1 | refine zaf ?_ GE175.out | refine zaf ?_ GE177.out) | exact HB.out))); (case side6 => exact HC0_2.out); (case side7 => exact Kd.zav HR176_1.out (by repeat (first | (with_reducible first | exact HB.out | apply zac | apply zab | apply below_drew1 | refine zaf ?_ GE175.out | refine zaf ?_ GE177.out) | exact HB.out))); (case side8 => exact HC176_1.out); rintro e w33 ⟨rfl, hb⟩; have n0_ := zaj.mk (zak (g := gb175) (o := .cells #[.slice A0_0 l0_0.length c0_0, .slice A0_1 l0_1.length c0_1, .slice (some ad176) l0_2.length c0_2] 51 (0, 0)) (by (with_reducible repeat (first | apply zai | apply zah | apply zad)); refine zar ?_ NB175_177.out _; (with_reducible repeat (first | apply zai | apply zah | apply zad)); refine zar ?_ NB175_177.out _; (with_reducible repeat (first | apply zai | apply zah | apply zad)); exact BK175.out) hb); have n1_ := zaj.mk (zak (g := gb177) (o := .cells #[.int .i64 ((zal l0_2 x24_2).f0), .slice A176_1 ((zal l0_2 x24_2).f1).length c176_1] 77 (0, 0)) (by (with_reducible repeat (first | apply zai | apply zah | apply zad)); refine zat (cs := #[.int .i64 ((zal l0_2 x24_2).f0), .slice none 0 0]) ?_ 1 _ rfl; (with_reducible repeat (first | apply zai | apply zah | apply zad)); refine zat (cs := #[.int .i64 0, .slice none 0 0]) ?_ 0 _ rfl; (with_reducible repeat (first | apply zai | apply zah | apply zad)); exact BK177.out) hb); have n2_ := zaj.mk (zam (by repeat (first | (with_reducible first | exact HB.out | apply zac | apply zab | apply below_drew1 | refine zaf ?_ GE175.out | refine zaf ?_ GE177.out) | exact HB.out)) hb); clear BK175; clear BK177; clear HB; have BK175 := n0_; have BK177 := n1_; have HB := n2_; clear n0_ n1_ n2_; (try clear hb); (try clear hb2); (try clear hk); (try clear hi)))
            go_ret; exact ⟨by first | rfl | (simp [errW_none, errW_some] <;> rfl) | (simp [*, errW_none, errW_some] <;> rfl), by repeat (first | (with_reducible first | exact HB.out | apply zac | apply zab | apply below_drew1 | refine zaf ?_ GE175.out | refine zaf ?_ GE177.out) | exact HB.out)⟩
        ·rw [if_neg c12] at H; exact absurd H (by simp)
       ·rw [if_neg c11] at H; exact absurd H (by simp)
      ·rw [if_neg c10] at H; have c10b0 : decide (x24_2 < (l0_2.length : Int)) = false := decide_eq_false c10; clear c10; obtain rfl := Option.some.inj H; go_wp2; go_ret; exact ⟨by first | rfl | (simp [errW_none, errW_some] <;> rfl) | (simp [*, errW_none, errW_some] <;> rfl), by repeat (first | (with_reducible first | exact HB.out | apply zac | apply zab | apply below_drew1 | refine zaf ?_ GE175.out) | exact HB.out)⟩
def strconv_isPowerOfTwo.f (a0 : Int) : Option (Bool) := some ((Go.bits .and .i64 a0 (wrap64 (a0 - 1))) == 0)
set_option maxHeartbeats 8000000 in
set_option maxRecDepth 100000 in
theorem strconv_isPowerOfTwo.calls (a0 : Int) (r : Bool) (w : World) (h : strconv_isPowerOfTwo.f a0 = some r) :
  Calls Tryd.prog 127 #[.int .i64 a0] w fun e w' => e = .returned (.bool r) ∧ Drawn0 w w' := by
 have H : (some ((Go.bits .and .i64 a0 (wrap64 (a0 - 1))) == 0)) = some r := h; clear h; obtain rfl := Option.some.inj H
 go_enter Tryd.func127, Tryd.ntmps127
 go_wp2; go_ret; exact ⟨by first | rfl | (simp; done) | (simp [*]; done), by repeat (first | exact Drawn0.refl _ | apply Drawn0.step)⟩
end Go.Proofs.YtcijanmckhlpiaaDoor.PTableBuilds
namespace Go.Proofs.YtcijanmckhlpiaaDoor
open Go.RowKit Go.Proofs.YtcijanmckhlpiaaDoorW.PrintWords Go.Proofs.YtcijanmckhlpiaaDoorW.PrintLast Go.Proofs.YtcijanmckhlpiaaDoorW.PrintMore Go.Proofs.YtcijanmckhlpiaaDoor.PTableBuilds
namespace Bld
def zbi : Nat := 18446744073709551616
def setsC (F : List Nat) (V : List Bool) : Array Value := (F.map (fun (x : Nat) => Value.int .u64 ((x : Nat) : Int)) ++ V.map Value.bool).toArray
def fst (F : List Nat) (k : Nat) : Nat := F.getD k 0
def van (V : List Bool) (k : Nat) : Bool := V.getD k false
theorem setsC_first {F : List Nat} {V : List Bool} (hF : F.length = 192) {k : Nat} (hk : k < 192) : (setsC F V)[k]? = some (.int .u64 ((fst F k : Nat) : Int)) := by
 unfold setsC fst; rw [List.getElem?_toArray, List.getElem?_append_left (by rw [List.length_map]; omega), List.getElem?_map, List.getD_eq_getElem?_getD, List.getElem?_eq_getElem (by omega)]
 rfl
theorem setsC_van {F : List Nat} {V : List Bool} (hF : F.length = 192) (hV : V.length = 192) {k : Nat} (hk : k < 192) : (setsC F V)[192 + k]? = some (.bool (van V k)) := by
 unfold setsC van; rw [List.getElem?_toArray, List.getElem?_append_right (by rw [List.length_map]; omega), List.length_map, hF, show 192 + k - 192 = k by omega, List.getElem?_map, List.getD_eq_getElem?_getD, List.getElem?_eq_getElem (by omega)]
 rfl
theorem fst_lt {F : List Nat} (hb : ∀ x ∈ F, x < zbi) (k : Nat) : fst F k < zbi := by
 unfold fst; rw [List.getD_eq_getElem?_getD]; rcases h : F[k]? with _ | x
 ·exact (by decide : (0 : Nat) < zbi)
 ·exact hb x (List.mem_of_getElem? h)
theorem or_lt {a b : Nat} (ha : a < zbi) (hb : b < zbi) : a ||| b < zbi := Nat.or_lt_two_pow (n := 64) ha hb
def ofS (F : List Nat) (V : List Bool) : Nat → List S110 → Nat × Bool
 | out, [] => (out, true)
 | out, r :: l => if van V r.f0.toNat = true then ofS F V (out ||| fst F r.f0.toNat) l else (out ||| fst F r.f0.toNat, false)
theorem ofS_drop {F : List Nat} {V : List Bool} {out i : Nat} {l : List S110} (hi : i < l.length) : ofS F V out (l.drop i) = if van V (zax l (i : Int)).f0.toNat = true then ofS F V (out ||| fst F (zax l (i : Int)).f0.toNat) (l.drop (i + 1)) else (out ||| fst F (zax l (i : Int)).f0.toNat, false) := by
 rw [List.drop_eq_getElem_cons hi]; have e : zax l (i : Int) = l[i] := by unfold zax; rw [Int.toNat_natCast, List.getD_eq_getElem?_getD, List.getElem?_eq_getElem hi]; rfl
 rw [e]; rfl
theorem rd_T110_mem {l : List S110} {i : Nat} (hi : i < l.length) : zax l (i : Int) ∈ l := by
 have e : zax l (i : Int) = l[i] := by unfold zax; rw [Int.toNat_natCast, List.getD_eq_getElem?_getD, List.getElem?_eq_getElem hi]; rfl
 rw [e]; exact List.getElem_mem _
theorem ofS_lt {F : List Nat} {V : List Bool} (hb : ∀ x ∈ F, x < zbi) : ∀ (l : List S110) (out : Nat), out < zbi → (ofS F V out l).1 < zbi
 | [], out, h => h
 | r :: l, out, h => by
  unfold ofS
  split
  ·exact ofS_lt hb l _ (or_lt h (fst_lt hb _))
  ·exact or_lt h (fst_lt hb _)
set_option maxRecDepth 100000 in
set_option maxHeartbeats 4000000 in
theorem of_any (g : Nat) (F : List Nat) (V : List Bool) (A : Option Addr) (c : Nat) (l : List S110) (w : World) (hF : F.length = 192) (hV : V.length = 192) (hb : ∀ x ∈ F, x < zbi) (hx : w.heap[g]? = some (Obj.cells (setsC F V) 254 (0, 0)))
  (hr : k110.C w A l.length l) (hz : l.length ≤ 4194304) (hs : ∀ r ∈ l, 0 ≤ r.f0 ∧ r.f0 < 192) :
  Calls Tryd.prog 131 #[.pointer (some ⟨g, 0, none⟩), .slice A l.length c] w fun e w' => e = .returned (.tuple #[.int .u64 ((ofS F V 0 l).1 : Int), .bool (ofS F V 0 l).2]) ∧ Below w.heap.size w w' := by
 have HX := Lib.hid hx; have HR := Lib.hid hr; have HS := Lib.hid hs; have HF := Lib.hid hF; have HV := Lib.hid hV; have HL := Lib.hid hb; have HO0 : Hid (ofS F V 0 (l.drop 0) = ofS F V 0 l) := Lib.hid (by rw [List.drop_zero])
 have HB0 : Hid (Below w.heap.size w w) := Lib.hid (Below.refl _ _); clear hx hr hs hF hV hb
 go_enter Tryd.func131, Tryd.ntmps131
 go_wp2_with fail
 go_loopw [6, 11] (fun vo v w' => ∃ i o : Nat, v = .int .i64 (i : Int) ∧ vo = .int .u64 (o : Int) ∧ i ≤ l.length ∧ o < zbi ∧ Hid (Below w.heap.size w w') ∧ Hid (ofS F V o (l.drop i) = ofS F V 0 l)) (fun _ v _ => l.length - (intOf v).toNat)
 case atStart => exact ⟨0, 0, rfl, rfl, Nat.zero_le _, by decide, HB0, HO0⟩
 case round =>
  clear HO0 HB0; obtain ⟨i, o, rfl, rfl, hi, ho, HB, HO⟩ := hrel; by_cases hil : i < l.length
  ·obtain ⟨ad, rfl, g0, g1, g2⟩ := zbm (Kd.zav HR.out HB.out) (i : Int) (by omega) (by omega)
   have hst := ofS_drop (F := F) (V := V) (out := o) hil; rw [HO.out] at hst; obtain ⟨hx0, hx1⟩ := HS.out _ (rd_T110_mem hil); generalize zax l (i : Int) = x at *; rw [Int.toNat_natCast] at g0 g1 g2; have hxw := zak HX.out HB.out; have hgw := zba hxw; obtain ⟨n, hn⟩ := Int.eq_ofNat_of_zero_le hx0; obtain ⟨x0, x1, x2⟩ := x; simp only at hn hx0 hx1 g0 g1 g2 hst; subst hn; rw [Int.toNat_natCast] at hst; have hn1 : n < 192 := by omega
   have c0 : wr.cell? ⟨g, n, none⟩ = some (.int .u64 ((fst F n : Nat) : Int)) := (zaa hxw n).trans (setsC_first HF.out hn1); have c1 : wr.cell? ⟨g, 192 + n, none⟩ = some (.bool (van V n)) := (zaa hxw (192 + n)).trans (setsC_van HF.out HV.out hn1); have hor : bits .or .u64 (o : Int) ((fst F n : Nat) : Int) = ((o ||| fst F n : Nat) : Int) := u64_or_nat _ _ ho (fst_lt HL.out n); have hol := or_lt ho (fst_lt HL.out n); have hib : decide ((i : Int) < (l.length : Int)) = true := decide_eq_true (by omega)
   have hi0 : (0 : Int) ≤ (i : Int) := by omega
   have hi1 : (i : Int) < (l.length : Int) := by omega
   have hiw : IntKind.i64.wrap ((i : Int) + 1) = (i : Int) + 1 := IntWalk.i64_in _ (by omega)
   have HST := Lib.hid hst; clear hst HO; have HXa := Lib.hid (zad hxw (.cells #[.int .i64 (n : Int), .string x1, .string x2] 110))
   go_wp2_with fail
   by_cases hv : van V n = true
   ·rw [hv] at c1
    go_quiet (fail)
    go_wp2_with fail
    go_quiet (fail)
    go_wp2_with fail
    go_roundw
    case rel => exact ⟨i + 1, o ||| fst F n, by rw [Int.natCast_add]; rfl, rfl, by omega, hol, Lib.hid (zab (zac HB.out _) _), Lib.hid (by rw [HST.out, if_pos hv])⟩
    case measure => simp only [intOf]; omega
   ·rw [Bool.not_eq_true] at hv; rw [hv] at c1
    go_quiet (fail)
    go_wp2_with fail
    go_quiet (fail)
    go_wp2_with fail
    go_ret2
    have hO := HST.out; rw [if_neg (by rw [hv]; decide)] at hO
    rw [hO]; exact ⟨rfl, zab (zab (zac HB.out _) _) _⟩
  ·have hib : decide ((i : Int) < (l.length : Int)) = false := decide_eq_false (by omega)
   have hie : i = l.length := by omega
   subst hie; have hO := HO.out; rw [List.drop_length] at hO; have HOO := Lib.hid hO; clear hO HO
   go_wp2_with fail
   go_ret2
   rw [← HOO.out]; exact ⟨rfl, HB.out⟩
def firsts (F : List Nat) : List Value := F.map fun (x : Nat) => Value.int .u64 ((x : Nat) : Int)
def vans (V : List Bool) : List Value := V.map Value.bool
theorem run_items {P : Program} {dd : Nat} {e : TypeId} {xs ys : Array Value} {w : World} (he : P.plainKey e = true) (r : Nat → Bool) : ∀ (is : List Nat), (∀ i ∈ is, ∃ a b, xs[i]? = some a ∧ ys[i]? = some b ∧ (Op.equalIn dd e a b).run P w = .ok (r i) w) → (Op.eqItems dd e 1 xs ys is).run P w = .ok (is.all r) w
 | [], _ => by simp [Op.eqItems]
 | i :: is, h => by
  obtain ⟨a, b, h1, h2, h3⟩ := h i (by simp)
  have ih := run_items he r is (fun j hj => h j (by simp [hj]))
  simp only [Op.eqItems, Sem.run_bind, Nat.mul_one, run_part_plain w he h1, run_part_plain w he h2, h3, Result.andThen_ok, List.all_cons]; cases r i
  ·simp
  ·simpa using ih
theorem all_range_eq {α : Type} [DecidableEq α] {F G : List α} {n : Nat} (d : α) (hF : F.length = n) (hG : G.length = n) : (List.range n).all (fun i => F.getD i d == G.getD i d) = decide (F = G) := by
 rw [Bool.eq_iff_iff, List.all_eq_true, decide_eq_true_iff]; constructor
 ·intro h; apply List.ext_getElem (by rw [hF, hG])
  intro i h1 h2; have := h i (by rw [List.mem_range]; omega)
  rw [beq_iff_eq, List.getD_eq_getElem?_getD, List.getD_eq_getElem?_getD, List.getElem?_eq_getElem h1, List.getElem?_eq_getElem h2] at this; exact this
 ·rintro rfl i _; exact beq_self_eq_true _
theorem eq_firsts (F G : List Nat) (hF : F.length = 192) (hG : G.length = 192) (w : World) : (Op.equalIn 10000 251 (.agg (firsts F).toArray) (.agg (firsts G).toArray)).run Tryd.prog w = .ok (decide (F = G)) w := by
 unfold firsts; rw [run_equalIn_array w 9999 _ _ Tryd.underlying251 (i := (Tryd.prog.info? 128).get (by kernel_rfl)) (by kernel_rfl)]
 rw [show Tryd.prog.cellsOf 128 = 1 from by kernel_rfl]
 rw [run_items (by kernel_rfl) (fun i => F.getD i 0 == G.getD i 0), all_range_eq 0 hF hG]
 intro i hi; rw [List.mem_range] at hi; refine ⟨_, _, by rw [List.getElem?_toArray, List.getElem?_map, List.getElem?_eq_getElem (by omega)]; rfl, by rw [List.getElem?_toArray, List.getElem?_map, List.getElem?_eq_getElem (by omega)]; rfl, ?_⟩
 rw [run_equalIn_int _ _ _ .u64 _ _ _ Tryd.underlying128]; simp only [List.getD_eq_getElem?_getD, List.getElem?_eq_getElem (show i < F.length by omega), List.getElem?_eq_getElem (show i < G.length by omega), Option.getD_some]
 congr 1
 rw [Bool.eq_iff_iff, beq_iff_eq, beq_iff_eq]; omega
theorem eq_vans (F G : List Bool) (hF : F.length = 192) (hG : G.length = 192) (w : World) : (Op.equalIn 10000 252 (.agg (vans F).toArray) (.agg (vans G).toArray)).run Tryd.prog w = .ok (decide (F = G)) w := by
 unfold vans; rw [run_equalIn_array w 9999 _ _ Tryd.underlying252 (i := (Tryd.prog.info? 4).get (by kernel_rfl)) (by kernel_rfl)]
 rw [show Tryd.prog.cellsOf 4 = 1 from by kernel_rfl]
 rw [run_items (by kernel_rfl) (fun i => F.getD i false == G.getD i false), all_range_eq false hF hG]
 intro i hi; rw [List.mem_range] at hi; refine ⟨_, _, by rw [List.getElem?_toArray, List.getElem?_map, List.getElem?_eq_getElem (by omega)]; rfl, by rw [List.getElem?_toArray, List.getElem?_map, List.getElem?_eq_getElem (by omega)]; rfl, ?_⟩
 rw [run_equalIn_bool' _ _ _ _ _ Tryd.underlying4]; simp only [List.getD_eq_getElem?_getD, List.getElem?_eq_getElem (show i < F.length by omega), List.getElem?_eq_getElem (show i < G.length by omega), Option.getD_some]
theorem results_wide {fn : Func} {t : Tmp} {ty : TypeId} (h : fn.results = #[.cell t ty]) (tmps : Array Value) (P : Program) (w : World) (b : Nat) (cs : List Value) (d : TypeDesc) (hp : tmps.getD t undef = .pointer (some ⟨b, 0, none⟩)) (hR : w.rangeAt b 0 cs) (hu : P.underlying ty = some d) (hd : d.isRow = true) (hi : (P.info? ty).map (·.size) = some cs.length) : (results fn tmps).run P w = .ok (.agg cs.toArray) w := by
 have hl := run_loadVar_mid (P := P) w b 0 ty cs d hR hu hd hi; have hp' : tmps[t]?.getD undef = .pointer (some ⟨b, 0, none⟩) := by simpa using hp
 simp [results, h, hp', asAddr, hl]
end Bld
end Go.Proofs.YtcijanmckhlpiaaDoor
