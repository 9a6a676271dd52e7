import Derived.Test.YtcijanmckhlpiaaDoorPaintRefClass
import Derived.Maps.OwnIn
namespace Go.Proofs.YtcijanmckhlpiaaDoor
open Go.RowKit Go.Proofs.YtcijanmckhlpiaaDoorW.PrintWords Go.Proofs.YtcijanmckhlpiaaDoorW.PrintLast Go.Proofs.YtcijanmckhlpiaaDoorW.PrintMore Go.Proofs.YtcijanmckhlpiaaDoor.PPaintLines
set_option linter.unusedVariables false
set_option linter.unusedSimpArgs false
namespace Paint
abbrev DU := DataW Unit
def kl (s : ByteArray) : Lit := .string s.data.toList
theorem kl_key (s : ByteArray) : WideAt.IsKeyLit (kl s) := trivial
theorem kl_inj {a b : ByteArray} (h : kl a = kl b) : a = b := by
  unfold kl at h
  injection h with h
  exact WideShapes.bytes_inj h
/-- Where the first line of a name stands. -/
def lineIx (s : ByteArray) : List PD → Option Nat
  | [] => none
  | p :: r => if p.1 = s then some 0 else (lineIx s r).map (· + 1)
theorem lineS_ix (s : ByteArray) : ∀ l : List PD, lineS s l = (lineIx s l).map fun (i : Nat) => (rdP l (i : Int)).2
  | [] => rfl
  | p :: r => by
    unfold lineS lineIx
    by_cases h : p.1 = s
    · subst h
      simp [rdP]
    · have h2 : ¬ (p.1.toList == s.toList) = true := by
        intro e
        have e := beq_iff_eq.1 e
        rw [ByteArray.toList_eq, ByteArray.toList_eq] at e
        exact h (WideShapes.bytes_inj e)
      rw [if_neg h2, if_neg h, lineS_ix s r, Option.map_map]
      congr 1
theorem lineIx_lt (s : ByteArray) : ∀ (l : List PD) (i : Nat), lineIx s l = some i → i < l.length
  | [], i, h => by cases h
  | p :: r, i, h => by
    unfold lineIx at h
    split at h
    · cases h; simp
    · cases hr : lineIx s r with
      | none => rw [hr] at h; cases h
      | some j => rw [hr] at h; cases h; have := lineIx_lt s r j hr; simpa using this
/-- What the map of names holds when the lines from k on are in it. -/
structure LM (D : DU) (l : List PD) (k : Nat) : Prop where
  isMap : Maps.IsMap D
  no : ∀ s, lineIx s (l.drop k) = none → Maps.has D (kl s) = false
  yes : ∀ s i, lineIx s (l.drop k) = some i → Maps.has D (kl s) = true ∧ ∀ z, D.atKey (kl s) z = .lit (.int .i64 ((k + i : Nat) : Int))
theorem LM.start (l : List PD) : LM (.map []) l l.length :=
  ⟨⟨_, rfl⟩, fun s _ => rfl, fun s i h => by rw [List.drop_length] at h; cases h⟩
theorem LM.step {D : DU} {l : List PD} {k : Nat} (hk : k < l.length) (h : LM D l (k + 1)) : LM (D.put (kl (l[k]).1) (.lit (.int .i64 (k : Int)))) l k := by
  have hd : l.drop k = l[k] :: l.drop (k + 1) := List.drop_eq_getElem_cons hk
  refine ⟨h.isMap.put _ _, fun s hs => ?_, fun s i hs => ?_⟩
  · rw [hd] at hs
    unfold lineIx at hs
    split at hs
    · cases hs
    · rename_i hne
      rw [Maps.has_put_other (fun e => hne (kl_inj e).symm)]
      exact h.no s (by cases hx : lineIx s (l.drop (k + 1)) with | none => rfl | some j => rw [hx] at hs; cases hs)
  · rw [hd] at hs
    unfold lineIx at hs
    split at hs
    · rename_i he
      cases hs
      rw [← he]
      exact ⟨Maps.has_put_same h.isMap (kl_key _) _, fun z => Maps.atKey_put_same h.isMap (kl_key _) _ z⟩
    · rename_i hne
      cases hx : lineIx s (l.drop (k + 1)) with
      | none => rw [hx] at hs; cases hs
      | some j =>
        rw [hx] at hs
        cases hs
        obtain ⟨h1, h2⟩ := h.yes s j hx
        rw [Maps.has_put_other (fun e => hne (kl_inj e).symm)]
        refine ⟨h1, fun z => ?_⟩
        rw [Maps.atKey_put_other (fun e => hne (kl_inj e).symm), h2, show k + 1 + j = k + (j + 1) by omega]
theorem LM.all_no {D : DU} {l : List PD} (h : LM D l 0) {s : ByteArray} (hs : lineS s l = none) : Maps.has D (kl s) = false := by
  refine h.no s ?_
  rw [lineS_ix] at hs
  rw [List.drop_zero]
  cases hx : lineIx s l with
  | none => rfl
  | some j => rw [hx] at hs; cases hs
theorem LM.all_yes {D : DU} {l : List PD} (h : LM D l 0) {s c : ByteArray} (hs : lineS s l = some c) : ∃ i : Nat, i < l.length ∧ Maps.has D (kl s) = true ∧ (∀ z, D.atKey (kl s) z = .lit (.int .i64 (i : Int))) ∧ (rdP l (i : Int)).2 = c := by
  rw [lineS_ix] at hs
  cases hx : lineIx s l with
  | none => rw [hx] at hs; cases hs
  | some j =>
    rw [hx] at hs
    obtain ⟨h1, h2⟩ := h.yes s j (by rw [List.drop_zero]; exact hx)
    exact ⟨j, lineIx_lt s l j hx, h1, fun z => by rw [h2, Nat.zero_add], by simpa using hs⟩
end Paint
end Go.Proofs.YtcijanmckhlpiaaDoor
