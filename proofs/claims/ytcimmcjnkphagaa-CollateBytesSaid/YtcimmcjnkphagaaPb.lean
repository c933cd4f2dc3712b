/-
  Plain functions: numbers out of lists; letters, words and their levels.
-/
import Derived.Test.YtcimmcjnkphagaaPa
namespace Go.Wb
open Go.Am
def I64 (n : Int) : Prop := -9223372036854775808 ≤ n ∧ n ≤ 9223372036854775807
def I64s (l : List Int) : Prop := ∀ x ∈ l, I64 x
theorem I64s.get {l : List Int} (h : I64s l) (k : Nat) : I64 (l.getD k default) := by
  rw [List.getD_eq_getElem?_getD]
  cases hk : l[k]? with
  | none => exact ⟨by decide, by decide⟩
  | some x => exact h x (List.mem_of_getElem? hk)
theorem I64s.take {l : List Int} (h : I64s l) (k : Nat) : I64s (l.take k) := fun x hx => h x (List.mem_of_mem_take hx)
theorem take_succ {α : Type} [Inhabited α] {l : List α} {k : Nat} (h : k < l.length) : l.take (k + 1) = l.take k ++ [l.getD k default] := by
  rw [List.take_succ_eq_append_getElem h, List.getD_eq_getElem?_getD, List.getElem?_eq_getElem h]; rfl

def around (n most : Int) : Int := (if n < 0 then -(n + 1) else n) % most
theorem around_lt {n most : Int} (h : 0 < most) : 0 ≤ around n most ∧ around n most < most := ⟨Int.emod_nonneg _ (by omega), Int.emod_lt_of_pos _ h⟩
def atL (l : List Int) (i most : Int) : Int := if i < 0 ∨ (l.length : Int) ≤ i then 0 else around (l.getD i.toNat default) most
theorem atL_lt {l : List Int} {i most : Int} (h : 0 < most) : 0 ≤ atL l i most ∧ atL l i most < most := by
  unfold atL; split
  · omega
  · exact around_lt h
def numL (l : List Int) (i : Int) : Int := if l.length = 0 then 0 else
  let x := (l.getD (i % l.length).toNat default).tmod 1048576
  (if x < 0 then -x else x) + 13 * (i / l.length)
theorem tmod_lt (x : Int) : -1048576 < x.tmod 1048576 ∧ x.tmod 1048576 < 1048576 := by
  have h1 := Int.tmod_lt_of_pos x (show (0 : Int) < 1048576 by decide)
  have h2 : -1048576 < x.tmod 1048576 := by
    have := Int.lt_tmod_of_pos x (show (0 : Int) < 1048576 by decide)
    omega
  exact ⟨h2, h1⟩
theorem numL_bd {l : List Int} {i : Int} (h : 0 ≤ i) : 0 ≤ numL l i ∧ numL l i ≤ 1048576 + 13 * i := by
  unfold numL
  split
  · omega
  · rename_i hl
    have h1 := tmod_lt (l.getD (i % l.length).toNat default)
    have h2 : 0 ≤ i / (l.length : Int) := Int.ediv_nonneg h (by omega)
    have h3 : i / (l.length : Int) ≤ i := Int.ediv_le_self _ h
    simp only []
    split <;> omega

structure Letter where
  text : List UInt8
  base : Int
  mark : Int
  cap : Int
  width : Int
  deriving Inhabited, DecidableEq
def letter (x : Letter) : AV := .agg [sbytes x.text, int x.base, int x.mark, int x.cap, int x.width]
abbrev letters (a : List Letter) : AV := .sl (a.map letter)
def isL (a : List Letter) (x : Int) : Bool := decide (0 ≤ x) && decide (x < a.length)
theorem isL_true {a : List Letter} {x : Int} (h : 0 ≤ x ∧ x < a.length) : isL a x = true := by unfold isL; simp [h]
theorem isL_false {a : List Letter} {x : Int} (h : x < 0 ∨ (a.length : Int) ≤ x) : isL a x = false := by
  unfold isL
  rw [Bool.and_eq_false_iff, decide_eq_false_iff_not, decide_eq_false_iff_not]
  omega
/-- The number of a letter at a level. -/
def lev (a : List Letter) (k x : Int) : Int :=
  if k = 1 then (a.getD x.toNat default).base else if k = 2 then (a.getD x.toNat default).mark else if k = 3 then (a.getD x.toNat default).cap else x
def lets (a : List Letter) (w : List Int) : List Int := w.filter (isL a)
def level (a : List Letter) (w : List Int) (k : Int) : List Int := if 1 ≤ k ∧ k ≤ 4 then (lets a w).map (lev a k) else []
theorem level_length_le (a : List Letter) (w : List Int) (k : Int) : (level a w k).length ≤ w.length := by
  unfold level; split
  · rw [List.length_map]; exact List.length_filter_le _ _
  · simp
theorem level_snoc_not (a : List Letter) (w : List Int) (k x : Int) (h : isL a x = false) : level a (w ++ [x]) k = level a w k := by
  unfold level lets; simp [List.filter_append, h]
theorem level_snoc (a : List Letter) (w : List Int) (k x : Int) (h : isL a x = true) (hk : 1 ≤ k ∧ k ≤ 4) : level a (w ++ [x]) k = level a w k ++ [lev a k x] := by
  unfold level lets; simp [List.filter_append, h, hk]
theorem level_none (a : List Letter) (w : List Int) (k : Int) (h : ¬ (1 ≤ k ∧ k ≤ 4)) : level a w k = [] := by unfold level; rw [if_neg h]

def upto (a : List Letter) (v w : List Int) : Nat → Int → Int
  | 0, _ => 0
  | n + 1, i => let c := order (level a v i) (level a w i); if c ≠ 0 then c else upto a v w n (i + 1)
theorem order_bd : ∀ (a b : List Int), order a b = -1 ∨ order a b = 0 ∨ order a b = 1
  | [], [] => by simp [order]
  | [], _ :: _ => by simp [order]
  | _ :: _, [] => by simp [order]
  | x :: xs, y :: ys => by
    unfold order
    split
    · simp
    · split
      · simp
      · exact order_bd xs ys
end Go.Wb
