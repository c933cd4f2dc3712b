/-
  Plain functions: lists of numbers in order, equal lists.
-/
import Derived.Test.YtcimmcjnkphagaaAm14
namespace Go.Wb
def order : List Int → List Int → Int
  | [], [] => 0
  | [], _ :: _ => -1
  | _ :: _, [] => 1
  | x :: xs, y :: ys => if x < y then -1 else if y < x then 1 else order xs ys
theorem drop_cons {α : Type} [Inhabited α] {l : List α} {k : Nat} (h : k < l.length) : l.drop k = l.getD k default :: l.drop (k + 1) := by
  rw [List.drop_eq_getElem_cons h, List.getD_eq_getElem?_getD, List.getElem?_eq_getElem h]; rfl
theorem order_step {a b : List Int} {k : Nat} (ha : k < a.length) (hb : k < b.length) : order (a.drop k) (b.drop k) =
    if a.getD k default < b.getD k default then -1 else if b.getD k default < a.getD k default then 1 else order (a.drop (k + 1)) (b.drop (k + 1)) := by
  rw [drop_cons ha, drop_cons hb]; rfl
theorem order_end {a b : List Int} {k : Nat} (h : a.length ≤ k ∨ b.length ≤ k) (ha : k ≤ a.length) (hb : k ≤ b.length) : order (a.drop k) (b.drop k) = if a.length < b.length then -1 else if b.length < a.length then 1 else 0 := by
  rcases Nat.lt_or_ge k a.length with h1 | h1
  · have h2 : b.length ≤ k := by omega
    rw [drop_cons h1, List.drop_of_length_le h2, if_neg (by omega), if_pos (by omega)]; rfl
  · rw [List.drop_of_length_le h1]
    rcases Nat.lt_or_ge k b.length with h2 | h2
    · rw [drop_cons h2, if_pos (by omega)]; rfl
    · rw [List.drop_of_length_le h2, if_neg (by omega), if_neg (by omega)]; rfl
end Go.Wb
