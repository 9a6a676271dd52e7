import Derived.Test.YtcijanmckhlpiaaDoorSpansPlain
import Derived.Test.YtcijanmckhlpiaaDoorPaintPlain2
namespace Go.Proofs.YtcijanmckhlpiaaDoor
open Go.RowKit Go.Proofs.YtcijanmckhlpiaaDoorW.PrintWords Go.Proofs.YtcijanmckhlpiaaDoorW.PrintLast Go.Proofs.YtcijanmckhlpiaaDoorW.PrintMore Go.Proofs.YtcijanmckhlpiaaDoor.PPaintLines
set_option linter.unusedVariables false
set_option linter.unusedSimpArgs false
namespace Paint
theorem sameSpans_loop {t : List S61} (hb : t.length ≤ 4194304) : ∀ d i : Nat, t.length - i = d → i ≤ t.length → Ev (fun k => trellislaw21_sameSpans.l0 k t t (i : Int)) true := by
  intro d
  induction d with
  | zero =>
    intro i hd hi
    refine Ev.step (f := fun _ => some true) (fun k => ?_) (Ev.now _)
    simp only [trellislaw21_sameSpans.l0]
    rw [if_neg (by omega)]
  | succ d ih =>
    intro i hd hi
    refine Ev.step (fun k => ?_) (ih (i + 1) (by omega) (by omega))
    simp only [trellislaw21_sameSpans.l0]
    rw [if_pos (by omega), if_pos (by omega), if_pos (by omega), if_neg (by simp), w64_nat (by omega)]
theorem sameSpans_ev {t : List S61} (hb : t.length ≤ 4194304) : Ev (fun k => trellislaw21_sameSpans.f k t t) true := by
  unfold trellislaw21_sameSpans.f
  exact Ev.congr (fun k => if_pos rfl) (sameSpans_loop hb t.length 0 (by omega) (Nat.zero_le _))
theorem spansGo_len (cls : Int → ByteArray) : ∀ (P : List Int) (out : List S61), (spansGo cls out P).length ≤ out.length + P.length
  | [], out => by simp [spansGo]
  | [_], out => by simp [spansGo]
  | a :: b :: r, out => by
    rw [spansGo]
    have h1 := spansGo_len cls (b :: r) (stepS (cls a) out a b)
    have h2 := stepS_len (cls a) out a b
    simp only [List.length_cons] at h1 ⊢; omega
end Paint
end Go.Proofs.YtcijanmckhlpiaaDoor
