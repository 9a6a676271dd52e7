import Derived.Test.YtcijanmckhlpiaaDoorWMore
import Derived.Test.YtcijanmckhlpiaaDoorWFoot
import Derived.Deep.Slices
import Derived.ChangeArms
import Derived.DataReads
import Derived.SizedLaws
import Derived.Lib.SmallJoins
namespace Go.Proofs.YtcijanmckhlpiaaDoorW.PrintWords
open Go.RowKit
set_option linter.unusedVariables false
set_option linter.unusedSimpArgs false

/-- Whatever can be read as data of type t is of this kind, and what is read has G (sizes). -/
def Opens {α : Type} (P : Program) (t : TypeId) (d : Kd α) (G : α → Prop) : Prop :=
  ∀ {H : Type} (enc : TypeId × Value → H) (W : World) (base : Nat) (spare : Nat → Bool) (held : Bool) (fuel : Nat) (cs : List Value) (x : DataW H × List MemPlace),
    DataW.trod enc P W base spare held fuel t cs = some x → (∀ n ∈ x.1.weights P t, n ≤ reachBytes) → ∃ y, d.K W y cs ∧ G y
theorem opens_int {P : Program} {t : TypeId} {k : IntKind} (ht : P.underlying t = some (.int k)) : Opens P t (Kd.int k) (fun n => (Lit.int k n).wf = true) := by
  intro H enc W base spare held fuel cs x h _
  obtain ⟨n, rfl, _, hw⟩ := DataW.trod_int ht h
  exact ⟨n, rfl, hw⟩
theorem opens_bool {P : Program} {t : TypeId} (ht : P.underlying t = some .bool) : Opens P t Kd.bool (fun _ => True) := by
  intro H enc W base spare held fuel cs x h _
  obtain ⟨b, rfl, _⟩ := DataW.trod_bool ht h
  exact ⟨b, rfl, trivial⟩
theorem opens_string {P : Program} {t : TypeId} (ht : P.underlying t = some .string) : Opens P t Kd.string (fun s => s.size ≤ 140737488351232) := by
  intro H enc W base spare held fuel cs x h hw
  obtain ⟨s, rfl, rfl, _⟩ := DataW.trod_string ht h
  refine ⟨s, rfl, ?_⟩
  have := hw s.data.toList.length (by simp [DataW.weights])
  rw [Array.length_toList] at this
  exact this
theorem list_of {β : Type} {n : Nat} {p : Nat → β → Prop} (h : ∀ i, i < n → ∃ y, p i y) : ∃ ys : List β, ys.length = n ∧ ∀ i y, ys[i]? = some y → p i y := by
  induction n with
  | zero => exact ⟨[], rfl, fun i y hi => by simp at hi⟩
  | succ n ih =>
    obtain ⟨ys, h1, h2⟩ := ih (fun i hi => h i (by omega))
    obtain ⟨y, hy⟩ := h n (by omega)
    refine ⟨ys ++ [y], by simp [h1], fun i z hi => ?_⟩
    rcases Nat.lt_or_ge i n with hlt | hge
    · rw [List.getElem?_append_left (by omega)] at hi
      exact h2 i z hi
    · rw [List.getElem?_append_right (by omega)] at hi
      rcases Nat.eq_or_lt_of_le hge with he | he
      · subst he
        rw [h1, Nat.sub_self] at hi
        injection hi with hi
        exact hi ▸ hy
      · rw [List.getElem?_eq_none (by simp; omega)] at hi; cases hi
theorem opens_slice {α : Type} {P : Program} {t e : TypeId} {d : Kd α} {G : α → Prop} {B : Nat} (ht : P.underlying t = some (.slice e)) (hc : P.cellsOf e = d.sz) (hB : P.bytesOf e = B) (ho : Opens P e d G) :
    Opens P t (Kd.slice e d) (fun ys => ys.length * B ≤ 140737488351232 ∧ ∀ y ∈ ys, G y) := by
  intro H enc W base spare held fuel cs x h hw
  rcases Go.Deep.open_slice ht h with ⟨rfl, rfl⟩ | ⟨a, len, cap, m, n, D, Pl, rfl, hb, hl, hm, hmm, rfl, hx⟩
  · exact ⟨[], ⟨none, 0, rfl, Nat.zero_le _, Kd.C_nil d W⟩, by simp, fun y hy => by cases hy⟩
  · have hlm : len ≤ m := by rw [hmm]; split <;> omega
    simp only [DataW.weights, ht, List.mem_cons, List.mem_append, List.length_map, List.length_range] at hw
    have hwe : ∀ i, i < len → ∀ k ∈ (D i).weights P e, k ≤ reachBytes := by
      intro i hi k hk
      refine hw k (.inr (.inl ?_))
      have : ∀ (l : List (DataW H)), D i ∈ l → k ∈ DataW.weightsAll P e l := by
        intro l
        induction l with
        | nil => intro h; cases h
        | cons q r ih =>
          intro h
          simp only [DataW.weightsAll, List.mem_append]
          rcases List.mem_cons.1 h with h | h
          · exact .inl (h ▸ hk)
          · exact .inr (ih h)
      exact this _ (List.mem_map.2 ⟨i, List.mem_range.2 hi, rfl⟩)
    have hel : ∀ i, i < len → ∃ y : List Value × α, W.cells? base (a.add (i * P.cellsOf e)) (P.cellsOf e) = some y.1 ∧ d.K W y.2 y.1 ∧ G y.2 := by
      intro i hi
      obtain ⟨cs', h1, h2⟩ := hx i (by omega)
      obtain ⟨y, h3, h4⟩ := ho enc W base spare held n cs' _ h2 (hwe i hi)
      exact ⟨(cs', y), h1, h3, h4⟩
    obtain ⟨ys, hys, hf⟩ := list_of hel
    refine ⟨ys.map (·.2), ⟨some a, cap, by rw [List.length_map, hys], by rw [List.length_map, hys]; exact hl, ?_⟩, ?_, ?_⟩
    · refine ⟨rfl, by rw [List.length_map, hys]; simp only [maxLen] at hm; omega, fun hp => ⟨a, rfl, fun j p hj => ?_⟩⟩
      rw [List.getElem?_map, Option.map_eq_some_iff] at hj
      obtain ⟨q, hq, rfl⟩ := hj
      obtain ⟨h1, h2, _⟩ := hf j q hq
      obtain ⟨_, h3, h4⟩ := World.cells?_some h1
      refine ⟨q.1, d.K_len h2, h2, fun i u hu => ?_⟩
      have hi : i < P.cellsOf e := by have := (List.getElem?_eq_some_iff.1 hu).1; omega
      rw [← hc, ← Go.Deep.add_add, h4 i hi]
      exact hu
    · rw [List.length_map, hys, ← hB]
      have := hw _ (.inl rfl)
      refine Nat.le_trans (Nat.mul_le_mul_right _ ?_) this
      omega
    · intro y hy
      obtain ⟨q, hq, rfl⟩ := List.mem_map.1 hy
      obtain ⟨j, hj⟩ := List.mem_iff_getElem?.1 hq
      exact (hf j q hj).2.2
/-- The fields of a struct from cell o on. -/
def OpensFs {α : Type} (P : Program) (o : Nat) (fs : List Field) (d : Kd α) (G : α → Prop) : Prop :=
  ∀ {H : Type} (enc : TypeId × Value → H) (W : World) (base : Nat) (spare : Nat → Bool) (held : Bool) (fuel : Nat) (cs : List Value) (xs : List (DataW H × List MemPlace)), xs.length = fs.length →
    (∀ (i : Nat) (f : Field), fs[i]? = some f → DataW.trod enc P W base spare held fuel f.type ((cs.drop f.offset).take (P.cellsOf f.type)) = xs[i]?) → cs.length = o + d.sz →
    (∀ n ∈ DataW.weightsEach P (fs.map (·.type)) (xs.map (·.1)), n ≤ reachBytes) → ∃ y, d.K W y (cs.drop o) ∧ G y
theorem opensFs_last {α : Type} {P : Program} {o : Nat} {f : Field} {d : Kd α} {G : α → Prop} (hf : f.offset = o) (hc : P.cellsOf f.type = d.sz) (ho : Opens P f.type d G) : OpensFs P o [f] d G := by
  intro H enc W base spare held fuel cs xs hl hx hlen hw
  match xs, hl with
  | [x], _ =>
    have h := hx 0 f rfl
    rw [hf, hc, List.take_of_length_le (by rw [List.length_drop]; omega)] at h
    refine ho enc W base spare held fuel _ x h (fun n hn => hw n ?_)
    simp only [List.map_cons, List.map_nil, DataW.weightsEach, List.append_nil]
    exact hn
theorem opensFs_cons {α β : Type} {P : Program} {o : Nat} {f : Field} {fs : List Field} {d : Kd α} {d' : Kd β} {G : α → Prop} {G' : β → Prop} (hf : f.offset = o) (hc : P.cellsOf f.type = d.sz) (ho : Opens P f.type d G) (hs : OpensFs P (o + d.sz) fs d' G') :
    OpensFs P o (f :: fs) (Kd.pair d d') (fun y => G y.1 ∧ G' y.2) := by
  intro H enc W base spare held fuel cs xs hl hx hlen hw
  match xs, hl with
  | x :: xs, hl =>
    have h := hx 0 f rfl
    rw [hf, hc] at h
    have hlen' : cs.length = o + (d.sz + d'.sz) := hlen
    obtain ⟨y, hy, hg⟩ := ho enc W base spare held fuel _ x h (fun n hn => hw n (by
      simp only [List.map_cons, DataW.weightsEach, List.mem_append]; exact .inl hn))
    obtain ⟨y', hy', hg'⟩ := hs enc W base spare held fuel cs xs (by simpa using hl) (fun i g hi => hx (i + 1) g hi) (by omega) (fun n hn => hw n (by
      simp only [List.map_cons, DataW.weightsEach, List.mem_append]; exact .inr hn))
    refine ⟨(y, y'), ⟨_, _, ?_, hy, hy'⟩, hg, hg'⟩
    rw [← List.drop_drop, List.take_append_drop]
theorem opens_struct {α β : Type} {P : Program} {t : TypeId} {fs : Array Field} {d : Kd α} {G : α → Prop} (f : β → α) (g : α → β) (hfg : ∀ a, f (g a) = a) (ht : P.underlying t = some (.struct fs)) (hc : P.cellsOf t = d.sz) (hs : OpensFs P 0 fs.toList d G) :
    Opens P t (Kd.iso d f) (fun y => G (f y)) := by
  intro H enc W base spare held fuel cs x h hw
  obtain ⟨xs, n, _, rfl, hl, hlen, hx⟩ := DataW.trod_struct ht h
  simp only [DataW.weights, ht] at hw
  obtain ⟨y, hy, hg⟩ := hs enc W base spare held n cs xs (by simpa using hlen) (fun i f hi => hx i f (by simpa using hi)) (by omega) hw
  refine ⟨g y, ?_, ?_⟩
  · show d.K W (f (g y)) cs
    rw [hfg]; exact hy
  · show G (f (g y))
    rw [hfg]; exact hg
theorem Opens.imp {α : Type} {P : Program} {t : TypeId} {d : Kd α} {G G' : α → Prop} (h : Opens P t d G) (hG : ∀ y, G y → G' y) : Opens P t d G' := by
  intro H enc W base spare held fuel cs x hx hw
  obtain ⟨y, h1, h2⟩ := h enc W base spare held fuel cs x hx hw
  exact ⟨y, h1, hG y h2⟩
/-- One argument of a row. -/
theorem Opens.arg {α : Type} {P : Program} {t : TypeId} {d : Kd α} {G : α → Prop} (h : Opens P t d G) {H : Type} {enc : TypeId × Value → H} {W : World} {base : Nat} {spare : Nat → Bool} {held : Bool} {v : Value} {x : DataW H} {ps : List MemPlace} {ts : List TypeId} {ds : List (DataW H)} {j : Nat}
    (hsz : (DataW.weightsEach P ts ds).all (· ≤ reachBytes) = true) (ht : ts[j]? = some t) (hd : ds[j]? = some x) (hx : DataW.Trod enc P W base spare held t v x ps) : ∃ y, d.K W y v.cells.toList ∧ G y := by
  obtain ⟨fuel, hf⟩ := hx
  refine h enc W base spare held fuel _ _ hf (fun n hn => ?_)
  have := List.all_eq_true.1 hsz n (DataW.weights_mem_each ht hd n hn)
  simpa using this
end Go.Proofs.YtcijanmckhlpiaaDoorW.PrintWords
