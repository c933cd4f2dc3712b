/-
  Plain functions: the program's levels; comparing lists.
-/
import Derived.Test.YtcimmcjnkphagaaPd
namespace Go.Wb
open Go.Am
abbrev capsF (a : List Letter) (i : Nat) : List AV := if i < 3 then [.pc [letters a] 0] else []
abbrev levF (a : List Letter) (i : Nat) : AV := .clo (64 + i) (capsF a i)
theorem take_levs {a : List Letter} {n : Nat} (h : n ≤ 4) : (List.map (levF a) (List.range 4)).take n = (List.range n).map (levF a) := by
  rw [← List.map_take, List.take_range, Nat.min_eq_left h]
theorem range_getD {n i : Nat} (h : i < n) : (List.range n).getD i default = i := by
  rw [List.getD_eq_getElem?_getD, List.getElem?_range h]; rfl
theorem level_nil (a : List Letter) (k : Int) : level a [] k = [] := by unfold level lets; split <;> rfl
def cmpI (x y : Int) : Int := if x < y then -1 else if y < x then 1 else 0
theorem order_step' {a b : List Int} {k : Nat} (ha : k < a.length) (hb : k < b.length) : order (a.drop k) (b.drop k) =
    if cmpI (a.getD k default) (b.getD k default) ≠ 0 then cmpI (a.getD k default) (b.getD k default) else order (a.drop (k + 1)) (b.drop (k + 1)) := by
  rw [order_step ha hb]; unfold cmpI
  (repeat' split) <;> first | rfl | omega
theorem order_end1 {a b : List Int} {k : Nat} (ha : k < a.length) (hb : b.length ≤ k) : order (a.drop k) (b.drop k) = 1 := by
  rw [drop_cons ha, List.drop_of_length_le hb]; rfl
theorem order_end2 {a b : List Int} {k : Nat} (ha : a.length ≤ k) : order (a.drop k) (b.drop k) = if k < b.length then -1 else 0 := by
  rw [List.drop_of_length_le ha]
  rcases Nat.lt_or_ge k b.length with h2 | h2
  · rw [drop_cons h2, if_pos h2]; rfl
  · rw [List.drop_of_length_le h2, if_neg (by omega)]; rfl
def orInt : List Int → Int
  | [] => 0
  | x :: r => if x ≠ 0 then x else orInt r
theorem orInt_step {l : List Int} {k : Nat} (h : k < l.length) : orInt (l.drop k) = if l.getD k default ≠ 0 then l.getD k default else orInt (l.drop (k + 1)) := by
  rw [drop_cons h]; rfl
end Go.Wb
