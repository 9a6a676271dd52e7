import Derived.Test.YtcijanmckhlpiaaDoorOpens
import Derived.Test.YtcijanmckhlpiaaDoorPaintLang
import Derived.Test.YtcijanmckhlpiaaDoorRows
namespace Go.Proofs.YtcijanmckhlpiaaDoor
open Go.RowKit Go.Proofs.YtcijanmckhlpiaaDoorW.PrintWords Go.Proofs.YtcijanmckhlpiaaDoor.PPaintLines
set_option linter.unusedVariables false
set_option linter.unusedSimpArgs false
/-! ### the bulk -/
theorem bulk_pos {H : Type} (d : DataW H) : 1 ≤ Rows.uptoBulk d := by
  cases d with
  | lit v => cases v <;> simp [Rows.uptoBulk]
  | _ => simp [Rows.uptoBulk]
theorem bulk_len {H : Type} : ∀ l : List (DataW H), l.length ≤ Rows.uptoBulkAll l
  | [] => Nat.zero_le _
  | d :: r => by
    have h1 := bulk_pos d
    have h2 := bulk_len r
    simp only [List.length_cons, Rows.uptoBulkAll]; omega
theorem bulk_mem {H : Type} : ∀ (l : List (DataW H)) (d : DataW H), d ∈ l → Rows.uptoBulk d ≤ Rows.uptoBulkAll l
  | [], d, h => by cases h
  | x :: r, d, h => by
    rcases List.mem_cons.1 h with rfl | h
    · simp only [Rows.uptoBulkAll]; omega
    · have := bulk_mem r d h
      simp only [Rows.uptoBulkAll]; omega
/-- A slice that is read is no longer than its reading's bulk. -/
theorem bulk_slice {H : Type} {enc : TypeId × Value → H} {P : Program} {W : World} {base : Nat} {spare : Nat → Bool} {held : Bool} {t e : TypeId} {A : Option Addr} {n c : Nat} {d : DataW H} {ps : List MemPlace} (ht : P.underlying t = some (.slice e)) (h : DataW.Trod enc P W base spare held t (.slice A n c) d ps) : n ≤ Rows.uptoBulk d := by
  obtain ⟨m, h⟩ := h
  rcases Go.Deep.open_slice ht h with ⟨hcs, hx⟩ | ⟨a, len, cap, m, n', D, Pl, hcs, hb, hl, hm, hmm, hx, _⟩
  · simp only [Value.cells] at hcs
    injection hcs with hcs
    injection hcs with _ hn _
    rw [hn]; exact Nat.zero_le _
  · simp only [Value.cells] at hcs
    injection hcs with hcs
    injection hcs with _ hn _
    rw [hn]
    have := congrArg Prod.fst hx
    simp only at this
    rw [this, Rows.uptoBulk]
    have h1 := bulk_len ((List.range len).map D)
    rw [List.length_map, List.length_range] at h1
    omega
/-! ### the kinds -/
theorem opensPaints : Opens Tryd.prog 37 (Kd.slice 42 (Kd.iso (Kd.pair Kd.string Kd.string) (fun y : Paint.PD => y))) (fun l => l.length * 32 ≤ 140737488351232 ∧ ∀ x ∈ l, x.1.size ≤ 140737488351232 ∧ x.2.size ≤ 140737488351232) :=
  Opens.imp (opens_slice Tryd.underlying37 (by kernel_rfl) (B := 32) (by kernel_rfl) (opens_struct (fun y => y) (fun y => y) (fun _ => rfl) Tryd.underlying42 (by kernel_rfl) (opensFs_cons rfl (by kernel_rfl) (opens_string Tryd.underlying9) (opensFs_last rfl (by kernel_rfl) (opens_string Tryd.underlying9))))) (fun _ h => h)
theorem opensNodes : Opens Tryd.prog 38 (Kd.slice 100 k100) (fun l => l.length * 72 ≤ 140737488351232 ∧ ∀ x ∈ l, x.f0.size ≤ 140737488351232 ∧ (Lit.int .i64 x.f5).wf = true) :=
  Opens.imp (opens_slice Tryd.underlying38 (by kernel_rfl) (B := 72) (by kernel_rfl) (opens_struct (fun x : S100 => (x.f0, x.f1, x.f2, x.f3, x.f4, x.f5, x.f6)) (fun y => ⟨y.1, y.2.1, y.2.2.1, y.2.2.2.1, y.2.2.2.2.1, y.2.2.2.2.2.1, y.2.2.2.2.2.2⟩) (fun _ => rfl) Tryd.underlying100 (by kernel_rfl) (opensFs_cons rfl (by kernel_rfl) (opens_string Tryd.underlying9) (opensFs_cons rfl (by kernel_rfl) (opens_bool Tryd.underlying4) (opensFs_cons rfl (by kernel_rfl) (opens_string Tryd.underlying9) (opensFs_cons rfl (by kernel_rfl) (opens_int Tryd.underlying3) (opensFs_cons rfl (by kernel_rfl) (opens_int Tryd.underlying3) (opensFs_cons rfl (by kernel_rfl) (opens_int Tryd.underlying3) (opensFs_last rfl (by kernel_rfl) (opens_int Tryd.underlying3)))))))))) (fun _ h => ⟨h.1, fun x hx => ⟨(h.2 x hx).1, (h.2 x hx).2.2.2.2.2.1⟩⟩)
theorem kPD_iso {w : World} {A : Option Addr} {n : Nat} {l : List Paint.PD} (h : (Kd.iso (Kd.pair Kd.string Kd.string) (fun y : Paint.PD => y)).C w A n l) : Paint.kPD.C w A n l := h
end Go.Proofs.YtcijanmckhlpiaaDoor
