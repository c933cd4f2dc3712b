/-
  Plain functions: comparing up to a level, keys, ranges.
-/
import Derived.Test.YtcimmcjnkphagaaPc
namespace Go.Wb
open Go.Am
theorem upto_step {a : List Letter} {v w : List Int} {n : Nat} {i : Int} (h : n ≠ 0) : upto a v w n i = if order (level a v i) (level a w i) ≠ 0 then order (level a v i) (level a w i) else upto a v w (n - 1) (i + 1) := by
  cases n with
  | zero => exact absurd rfl h
  | succ n => rfl
def sep (i : Nat) : List Int := if i = 0 then [] else [0]
def keyP (a : List Letter) (w : List Int) : Nat → List Int
  | 0 => []
  | i + 1 => keyP a w i ++ sep i ++ (level a w (i + 1)).map (· + 1)
theorem sep_len (i : Nat) : (sep i).length ≤ 1 := by unfold sep; split <;> simp
theorem keyP_len (a : List Letter) (w : List Int) : ∀ i, (keyP a w i).length ≤ i * (w.length + 1)
  | 0 => by simp [keyP]
  | i + 1 => by
    have h1 := keyP_len a w i
    have h2 := level_length_le a w (i + 1)
    have h3 := sep_len i
    simp only [keyP, List.length_append, List.length_map]
    rw [Nat.succ_mul]; omega
theorem valid_get {a : List Letter} (h : validA a = true) {i : Nat} (hi : i < a.length) : ok1P a (a.getD i default) := by
  unfold validA at h; rw [decide_eq_true_eq] at h; exact (h.2 i hi).1
theorem valid_len {a : List Letter} (h : validA a = true) : 1 ≤ a.length ∧ a.length ≤ 60 := by
  unfold validA at h; rw [decide_eq_true_eq] at h; exact h.1
theorem isL_iff {a : List Letter} {x : Int} : isL a x = true ↔ 0 ≤ x ∧ x < a.length := by unfold isL; simp
theorem lev_bd {a : List Letter} (h : validA a = true) {x : Int} (hx : isL a x = true) (k : Int) : 0 ≤ lev a k x ∧ lev a k x ≤ 1000 := by
  have hl := valid_len h
  rw [isL_iff] at hx
  obtain ⟨_, q2, q3, _, q5, q6, q7, q8, _⟩ := valid_get h (i := x.toNat) (by omega)
  unfold lev
  (repeat' split) <;> omega
theorem level_bd {a : List Letter} (h : validA a = true) (w : List Int) (k : Int) : ∀ x ∈ level a w k, 0 ≤ x ∧ x ≤ 1000 := by
  intro x hx
  unfold level at hx
  split at hx
  · obtain ⟨y, hy, rfl⟩ := List.mem_map.1 hx
    unfold lets at hy
    exact lev_bd h (List.mem_filter.1 hy).2 k
  · cases hx
theorem bd_get {l : List Int} (h : ∀ x ∈ l, 0 ≤ x ∧ x ≤ 1000) (k : Nat) : 0 ≤ l.getD k default ∧ l.getD k default ≤ 1000 := by
  rw [List.getD_eq_getElem?_getD]
  cases hk : l[k]? with
  | none => exact ⟨by decide, by decide⟩
  | some x => exact h x (List.mem_of_getElem? hk)
def lessN (a : List Letter) (w : List Int) (k : Nat) (l : List (List Int)) : Nat := l.countP fun v => decide (upto a v w k 1 < 0)
def sameN (a : List Letter) (w : List Int) (k : Nat) (l : List (List Int)) : Nat := l.countP fun v => decide (upto a v w k 1 = 0)
theorem countP_take {α : Type} [Inhabited α] (p : α → Bool) (l : List α) {k : Nat} (h : k < l.length) : (l.take (k + 1)).countP p = (l.take k).countP p + if p (l.getD k default) then 1 else 0 := by
  rw [take_succ h, List.countP_append]; simp [List.countP_cons]
theorem countP_le_take {α : Type} (p : α → Bool) (l : List α) (k : Nat) : (l.take k).countP p ≤ l.length := Nat.le_trans List.countP_le_length (by rw [List.length_take]; omega)
theorem lessN_step {a : List Letter} {w : List Int} {k : Nat} {l : List (List Int)} {i : Nat} (h : i < l.length) : lessN a w k (l.take (i + 1)) = lessN a w k (l.take i) + if upto a (l.getD i default) w k 1 < 0 then 1 else 0 := by
  unfold lessN; rw [countP_take _ _ h]; simp only [decide_eq_true_eq]
theorem sameN_step {a : List Letter} {w : List Int} {k : Nat} {l : List (List Int)} {i : Nat} (h : i < l.length) : sameN a w k (l.take (i + 1)) = sameN a w k (l.take i) + if upto a (l.getD i default) w k 1 = 0 then 1 else 0 := by
  unfold sameN; rw [countP_take _ _ h]; simp only [decide_eq_true_eq]
theorem upto_bd (a : List Letter) (v w : List Int) : ∀ (n : Nat) (i : Int), -1 ≤ upto a v w n i ∧ upto a v w n i ≤ 1
  | 0, _ => by simp [upto]
  | n + 1, i => by
    rw [upto_step (by omega)]
    have := order_bd (level a v i) (level a w i)
    split
    · omega
    · exact upto_bd a v w n (i + 1)
def sectP (a : List Letter) (w : List Int) : Int := (level a w 1).headD (-1)
def shortL (l : List (List Int)) : Prop := ∀ v ∈ l, v.length ≤ 1099511627776
theorem shortL.get {l : List (List Int)} (h : shortL l) (k : Nat) : (l.getD k default).length ≤ 1099511627776 := by
  rw [List.getD_eq_getElem?_getD]
  cases hk : l[k]? with
  | none => exact Nat.zero_le _
  | some x => exact h x (List.mem_of_getElem? hk)
end Go.Wb
