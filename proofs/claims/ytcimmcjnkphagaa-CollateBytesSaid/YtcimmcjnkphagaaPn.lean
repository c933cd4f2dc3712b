/-
  Plain functions: bounds of the given alphabets and words.
-/
import Derived.Test.YtcimmcjnkphagaaPm
namespace Go.Wb
open Go.Am
structure okA (a : List Letter) : Prop where
  len : a.length ≤ 1099511627776
  txt : ∀ x ∈ a, x.text.length ≤ 1099511627776
theorem letterI_text (l : List Int) (s : Int) (a : List Letter) (i : Nat) : (letterI l s a i).text.length ≤ 3 := by
  have h : ∀ k : Nat, (poolL.getD k default).length ≤ 3 := fun k => by
    rw [List.getD_eq_getElem?_getD]
    cases hk : poolL[k]? with
    | none => exact Nat.zero_le _
    | some x =>
      have : ∀ x ∈ poolL, x.length ≤ 3 := by decide
      exact this x (List.mem_of_getElem? hk)
  have h0 : (letterI l s a i).text = poolL.getD ((s + i) % 16).toNat default := by
    unfold letterI letter0; split <;> rfl
  rw [h0]; exact h _
theorem lettersN_text (l : List Int) (s : Int) : ∀ i, ∀ x ∈ lettersN l s i, x.text.length ≤ 3
  | 0, x, h => by cases h
  | i + 1, x, h => by
    rw [lettersN, List.mem_append] at h
    rcases h with h | h
    · exact lettersN_text l s i x h
    · simp only [List.mem_singleton] at h; subst h; exact letterI_text _ _ _ _
theorem lettersP_len (l : List Int) : 3 ≤ (lettersP l).length ∧ (lettersP l).length ≤ 8 := by
  have := atL_lt (l := l) (i := 0) (most := 6) (by decide)
  unfold lettersP; rw [lettersN_len]; omega
theorem lettersP_ok (l : List Int) : okA (lettersP l) := ⟨by have := lettersP_len l; omega, fun x hx => by have := lettersN_text _ _ _ x hx; omega⟩
theorem small_ok : okA smallP := ⟨by decide, by decide⟩
theorem text_get {a : List Letter} {n : Nat} (h : ∀ x ∈ a, x.text.length ≤ n) (k : Nat) : (a.getD k default).text.length ≤ n := by
  rw [List.getD_eq_getElem?_getD]
  cases hk : a[k]? with
  | none => exact Nat.zero_le _
  | some x => exact h x (List.mem_of_getElem? hk)
theorem set_ok {a : List Letter} (h : okA a) (k : Nat) {x : Letter} (hx : x.text.length ≤ 1099511627776) : okA (a.set k x) :=
  ⟨by rw [List.length_set]; exact h.len, fun y hy => (List.mem_or_eq_of_mem_set hy).elim (h.txt y) fun e => by rw [e]; exact hx⟩
theorem ok_ite {c : Prop} [Decidable c] {x y : List Letter} (hx : okA x) (hy : okA y) : okA (if c then x else y) := by
  by_cases h : c
  · rw [if_pos h]; exact hx
  · rw [if_neg h]; exact hy
theorem spoiltP_ok {a : List Letter} (h : okA a) (ati how bye : Int) : okA (spoiltP a ati how bye) := by
  have hg := text_get h.txt
  unfold spoiltP
  simp only []
  (repeat' (refine ok_ite ?_ ?_)) <;> first
    | exact set_ok h _ (hg _)
    | exact set_ok h _ (by simp only [List.length_append, List.length_take, List.length_cons, List.length_nil]; omega)
    | exact set_ok h _ (Nat.zero_le _)
    | exact ⟨by have := around_lt (n := bye) (most := 5) (by decide); simp only [manyA, List.length_map, List.length_range]; omega, fun x hx => by
        obtain ⟨i, _, rfl⟩ := List.mem_map.1 hx
        simp [manyL]⟩
    | exact ⟨by rw [List.length_take]; have := h.len; omega, fun x hx => h.txt x (List.mem_of_mem_take hx)⟩
/-- Words of a law. -/
def shortW (w : List (List Int)) : Prop := w.length ≤ 1000 ∧ ∀ v ∈ w, v.length ≤ 3000
theorem shortW.short {w : List (List Int)} (h : shortW w) : shortL w := fun v hv => by have := h.2 v hv; omega
theorem shortW.get {w : List (List Int)} (h : shortW w) (k : Nat) : (w.getD k default).length ≤ 1099511627776 := h.short.get k
theorem rawP_short (l : List (List Int)) : (rawP l).length ≤ 8 ∧ ∀ v ∈ rawP l, v.length ≤ 12 := by
  refine ⟨by unfold rawP; simp; omega, fun v hv => ?_⟩
  unfold rawP at hv
  obtain ⟨x, _, rfl⟩ := List.mem_map.1 hv
  rw [List.length_take]; omega
theorem words_short (a : List Letter) (m : List Int) (n : Int) (hn : n ≤ 100) (words : List (List Int)) : shortW (wordsP a m n ++ rawP words) := by
  have h1 := rawP_short words
  have h2 := wordsN_len a m n.toNat
  refine ⟨by rw [List.length_append, wordsP, h2]; omega, fun v hv => ?_⟩
  rcases List.mem_append.1 hv with hv | hv
  · have := wordsN_get a m n.toNat v hv; omega
  · have := h1.2 v hv; omega
theorem key_same (a : List Letter) (w : List Int) : keyC a w = if validA a = true then keyP a w 4 else [] := rfl
/-! ### the closed examples -/
abbrev livA : List Letter := [⟨[97], 0, 0, 0, 5⟩, ⟨[98], 1, 0, 0, 5⟩, ⟨[195, 161], 0, 1, 0, 5⟩, ⟨[65], 0, 0, 1, 6⟩]
abbrev livL : List (List Int) := [[0], [0, 1], [3, 1], [2, 1], [1]]
abbrev livT : List (List Int) := [[1], [2, 1], [3, 1], [0, 1], [0]]
theorem liv_ok : okA livA := ⟨by decide, by decide⟩
end Go.Wb
