import Derived.Test.YtcijanmckhlpiaaERoomy0
import Derived.Deep.Slices
namespace Go.Proofs.Ytcijanmckhlpiaa
open Go.RowKit Go.Proofs.YtcijanmckhlpiaaW.PrintWords Go.Proofs.YtcijanmckhlpiaaW.PrintLast Go.Proofs.YtcijanmckhlpiaaW.PrintMore Go.Proofs.Ytcijanmckhlpiaa.PTableEncodes
set_option linter.unusedVariables false
set_option linter.unusedSimpArgs false

/-- A row of one's own, opened: its block. -/
theorem R_open {α : Type} {d : Kd α} {e base : Nat} {ok : Nat → Prop} {w : World} {g n c : Nat} {xs : List α} (h : d.R e w base ok (.slice (some ⟨g, 0, none⟩) n c) xs) :
    ∃ cur : Array Value, w.heap[g]? = some (Obj.cells cur e (0, 0)) ∧ base ≤ g ∧ xs.length * d.sz ≤ cur.size ∧ ∀ (j : Nat) (x : α), xs[j]? = some x → ∃ cs : List Value, cs.length = d.sz ∧ d.M w base (fun k => ok k ∧ k ≠ g) x cs ∧ ∀ (i : Nat) (u : Value), cs[i]? = some u → cur[j * d.sz + i]? = some u := by
  obtain ⟨h0, inner, ho, hr⟩ := h
  rcases ho.2 with ⟨he, _⟩ | ⟨g', cap, cur, he, hb, hh, h3, h4, h5, h6⟩
  · injection he with he; cases he
  · injection he with he he2 he3
    injection he with he
    injection he with he
    subst he
    have hl : inner.length = xs.length * d.sz := hr.1
    refine ⟨cur, hh, hb, by rw [h5]; exact Nat.mul_le_mul_right _ h3, fun j x hx => ⟨_, ?_, d.M_mono (fun k hk => ⟨hk.1, fun e => hk.2 (by rw [e]; rfl)⟩) (hr.2 j x hx), ?_⟩⟩
    · exact d.K_len (d.K_of_M (hr.2 j x hx))
    · intro i u hu
      have hi : i < d.sz := by
        rcases Nat.lt_or_ge i d.sz with hi | hi
        · exact hi
        · rw [List.getElem?_eq_none (by rw [List.length_take]; omega)] at hu; cases hu
      rw [List.getElem?_take, if_pos hi, List.getElem?_drop, ← h6, List.getElem?_take] at hu
      split at hu
      · simpa using hu
      · cases hu
theorem ints80 {w : World} {base : Nat} {ok : Nat → Prop} {g n c : Nat} {xs : List S80} (h : k80.R 80 w base ok (.slice (some ⟨g, 0, none⟩) n c) xs) (m : Nat) (hm : m ≤ xs.length) : Ints w g 80 (m * 2) := by
  obtain ⟨cur, h1, h2, h3, h4⟩ := R_open h
  have hs : k80.sz = 2 := rfl
  rw [hs] at h3 h4
  refine ⟨cur, h1, by omega, fun j hj => ?_⟩
  obtain ⟨cs, _, h5, h6⟩ := h4 (j / 2) _ (List.getElem?_eq_getElem (show j / 2 < xs.length by omega))
  have h7 := k80_openM h5
  subst h7
  rcases Nat.mod_two_eq_zero_or_one j with h8 | h8
  · exact ⟨_, by have := h6 0 _ rfl; rwa [show j / 2 * 2 + 0 = j by omega] at this⟩
  · exact ⟨_, by have := h6 1 _ rfl; rwa [show j / 2 * 2 + 1 = j by omega] at this⟩
theorem ints3 {w : World} {base : Nat} {ok : Nat → Prop} {g n c : Nat} {xs : List Int} (h : kI.R 3 w base ok (.slice (some ⟨g, 0, none⟩) n c) xs) (m : Nat) (hm : m ≤ xs.length) : Ints w g 3 (m * 1) := by
  obtain ⟨cur, h1, h2, h3, h4⟩ := R_open h
  have hs : kI.sz = 1 := rfl
  rw [hs] at h3 h4
  refine ⟨cur, h1, by omega, fun j hj => ?_⟩
  obtain ⟨cs, _, h5, h6⟩ := h4 j _ (List.getElem?_eq_getElem (show j < xs.length by omega))
  have h7 : cs = [.int .i64 (xs[j])] := h5
  exact ⟨_, by have := h6 0 _ (by rw [h7]; rfl); rwa [show j * 1 + 0 = j by omega] at this⟩
/-- An inner row with something behind its end lies at a block's head. -/
theorem spare_head {α : Type} {d : Kd α} {e base : Nat} {ok : Nat → Prop} {w : World} {x : List α × List α} {cs : List Value} (h : (Kd.spare e d).M w base ok x cs) (hp : 0 < (x.1 ++ x.2).length) :
    ∃ g c : Nat, cs = [.slice (some ⟨g, 0, none⟩) x.1.length c] ∧ base ≤ g ∧ (x.1 ++ x.2).length ≤ c ∧ d.R e w base ok (.slice (some ⟨g, 0, none⟩) (x.1 ++ x.2).length c) (x.1 ++ x.2) := by
  obtain ⟨A, c, rfl, hr⟩ := h
  obtain ⟨g, cap, he, hb, hl, _⟩ := Kd.R_form hr hp
  injection he with he1 he2 he3
  subst he1
  subst he3
  exact ⟨g, c, rfl, hb, (Kd.R_reads' hr).2.1, hr⟩
theorem mine_A {w : World} {base b' : Nat} {ok : Nat → Prop} {g n c : Nat} {l : List (List S80)} (h : (Kd.spare 80 k80).R 77 w base ok (.slice (some ⟨g, 0, none⟩) n c) (xA l ++ [(markA, [])])) (hb : b' ≤ base) : Mine w b' g 77 80 2 (l.map List.length) := by
  obtain ⟨cur, h1, h2, h3, h4⟩ := R_open h
  refine ⟨cur, h1, fun i m hi => ?_⟩
  rw [List.getElem?_map, Option.map_eq_some_iff] at hi
  obtain ⟨r, hr, rfl⟩ := hi
  have hil := (List.getElem?_eq_some_iff.1 hr).1
  obtain ⟨cs, _, h5, h6⟩ := h4 i (r, markA) (by rw [List.getElem?_append_left (by simpa [xA] using hil)]; unfold xA; rw [List.getElem?_map, hr]; rfl)
  obtain ⟨g', c', rfl, h7, h8, h9⟩ := spare_head h5 (by simp [markA])
  refine ⟨g', c', ?_, ?_, by omega, ints80 h9 _ (by simp)⟩
  · have := h6 0 _ rfl; rwa [show i * (Kd.spare 80 k80).sz + 0 = i from Nat.mul_one i] at this
  · simp only [List.length_append] at h8; omega
theorem mine_G {w : World} {base b' : Nat} {ok : Nat → Prop} {g n c : Nat} {l : List (List Int)} (h : (Kd.spare 3 kI).R 33 w base ok (.slice (some ⟨g, 0, none⟩) n c) (xG l ++ [(markG, [])])) (hb : b' ≤ base) : Mine w b' g 33 3 1 (l.map List.length) := by
  obtain ⟨cur, h1, h2, h3, h4⟩ := R_open h
  refine ⟨cur, h1, fun i m hi => ?_⟩
  rw [List.getElem?_map, Option.map_eq_some_iff] at hi
  obtain ⟨r, hr, rfl⟩ := hi
  have hil := (List.getElem?_eq_some_iff.1 hr).1
  obtain ⟨cs, _, h5, h6⟩ := h4 i (r, markG) (by rw [List.getElem?_append_left (by simpa [xG] using hil)]; unfold xG; rw [List.getElem?_map, hr]; rfl)
  obtain ⟨g', c', rfl, h7, h8, h9⟩ := spare_head h5 (by simp [markG])
  refine ⟨g', c', ?_, ?_, by omega, ints3 h9 _ (by simp)⟩
  · have := h6 0 _ rfl; rwa [show i * (Kd.spare 3 kI).sz + 0 = i from Nat.mul_one i] at this
  · simp only [List.length_append] at h8; omega
/-! ### back: what lies there reads as some table of the same shape -/
theorem read80 {w : World} {b n : Nat} (h : Ints w b 80 (n * 2)) (hn : n ≤ 9223372036854775807) : ∃ row : List S80, row.length = n ∧ k80.C w (some ⟨b, 0, none⟩) n row := by
  obtain ⟨ds, h1, h2, h3⟩ := h
  obtain ⟨f, hf⟩ : ∃ f : Nat → Int, ∀ j, j < n * 2 → ds[j]? = some (Value.int .i64 (f j)) := Go.Deep.choose_lt h3
  refine ⟨(List.range n).map fun i => ⟨f (i * 2), f (i * 2 + 1)⟩, by simp, by simp, hn, fun hp => ⟨⟨b, 0, none⟩, rfl, fun j p hj => ?_⟩⟩
  have hjn : j < n := by have := (List.getElem?_eq_some_iff.1 hj).1; simpa using this
  have hp' : p = ⟨f (j * 2), f (j * 2 + 1)⟩ := by
    rw [List.getElem?_map, List.getElem?_range hjn] at hj
    exact (Option.some.inj hj).symm
  subst hp'
  refine ⟨_, rfl, k80_mk w _, fun i u hu => ?_⟩
  rw [show k80.sz = 2 from rfl, add_plain]
  refine (blk_cell h1 _).trans ?_
  match i with
  | 0 => rw [Nat.add_zero, hf _ (by omega)]; exact hu
  | 1 => rw [hf _ (by omega)]; exact hu
  | i + 2 => simp at hu
theorem read3 {w : World} {b n : Nat} (h : Ints w b 3 (n * 1)) (hn : n ≤ 9223372036854775807) : ∃ row : List Int, row.length = n ∧ kI.C w (some ⟨b, 0, none⟩) n row := by
  obtain ⟨ds, h1, h2, h3⟩ := h
  obtain ⟨f, hf⟩ : ∃ f : Nat → Int, ∀ j, j < n * 1 → ds[j]? = some (Value.int .i64 (f j)) := Go.Deep.choose_lt h3
  refine ⟨(List.range n).map f, by simp, by simp, hn, fun hp => ⟨⟨b, 0, none⟩, rfl, fun j p hj => ?_⟩⟩
  have hjn : j < n := by have := (List.getElem?_eq_some_iff.1 hj).1; simpa using this
  have hp' : p = f j := by
    rw [List.getElem?_map, List.getElem?_range hjn] at hj
    exact (Option.some.inj hj).symm
  subst hp'
  refine ⟨[.int .i64 (f j)], rfl, rfl, fun i u hu => ?_⟩
  rw [show kI.sz = 1 from rfl, add_plain]
  refine (blk_cell h1 _).trans ?_
  match i with
  | 0 => rw [Nat.add_zero, Nat.mul_one, hf _ (by omega)]; exact hu
  | i + 1 => simp at hu
theorem read_mine {α : Type} (e : Nat) (d : Kd α) {w : World} {base g e1 sz : Nat} {lens : List Nat} (h : Mine w base g e1 e sz lens) (hb : ∀ n ∈ lens, n ≤ 9223372036854775807) (hl : lens.length ≤ 9223372036854775807)
    (hrd : ∀ b n, Ints w b e (n * sz) → n ≤ 9223372036854775807 → ∃ row : List α, row.length = n ∧ d.C w (some ⟨b, 0, none⟩) n row) :
    ∃ rows : List (List α), rows.map List.length = lens ∧ (Kd.slice e d).C w (some ⟨g, 0, none⟩) lens.length rows := by
  obtain ⟨cs, h1, h2⟩ := h
  have h3 : ∀ i, i < lens.length → ∃ row : List α, row.length = lens.getD i 0 ∧ ∃ A c, cs[i]? = some (Value.slice A row.length c) ∧ row.length ≤ c ∧ d.C w A row.length row := by
    intro i hi
    have hg : lens[i]? = some (lens.getD i 0) := by rw [List.getD_eq_getElem?_getD, List.getElem?_eq_getElem hi]; rfl
    obtain ⟨b, c, g1, g2, g3, g4⟩ := h2 i _ hg
    obtain ⟨row, g5, g6⟩ := hrd b _ g4 (hb _ (List.mem_of_getElem? hg))
    exact ⟨row, g5, some ⟨b, 0, none⟩, c, by rw [g5]; exact g1, by omega, by rw [g5]; exact g6⟩
  obtain ⟨f, hf⟩ := Go.Deep.choose_lt h3
  refine ⟨(List.range lens.length).map f, ?_, by simp, hl, fun hp => ⟨⟨g, 0, none⟩, rfl, fun j p hj => ?_⟩⟩
  · apply List.ext_getElem?
    intro i
    rw [List.getElem?_map, List.getElem?_map]
    rcases Nat.lt_or_ge i lens.length with hi | hi
    · rw [List.getElem?_range hi, List.getElem?_eq_getElem hi]
      simp only [Option.map_some]
      rw [(hf i hi).1, List.getD_eq_getElem?_getD, List.getElem?_eq_getElem hi]; rfl
    · rw [List.getElem?_eq_none (by simpa using hi), List.getElem?_eq_none hi]; rfl
  · have hjn : j < lens.length := by have := (List.getElem?_eq_some_iff.1 hj).1; simpa using this
    have hp' : p = f j := by
      rw [List.getElem?_map, List.getElem?_range hjn] at hj
      exact (Option.some.inj hj).symm
    subst hp'
    obtain ⟨_, A, c, g1, g2, g3⟩ := hf j hjn
    refine ⟨_, rfl, ⟨A, c, rfl, g2, g3⟩, fun i u hu => ?_⟩
    rw [show (Kd.slice e d).sz = 1 from rfl, add_plain]
    refine (blk_cell h1 _).trans ?_
    match i with
    | 0 => rw [Nat.add_zero, Nat.mul_one, g1]; exact hu
    | i + 1 => simp at hu
end Go.Proofs.Ytcijanmckhlpiaa
