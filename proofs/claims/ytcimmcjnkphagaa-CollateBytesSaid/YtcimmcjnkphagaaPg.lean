/-
  Plain functions: the program's keys in comparisons.
-/
import Derived.Test.YtcimmcjnkphagaaPf
namespace Go.Wb
open Go.Am
theorem keyP_len4 (a : List Letter) (w : List Int) (k : Nat) (hk : k ≤ 4) : (keyP a w k).length ≤ 4 * (w.length + 1) := Nat.le_trans (keyP_len a w k) (Nat.mul_le_mul_right _ hk)
def keyC (a : List Letter) (w : List Int) : List Int := if validA a = true then keyP a w 4 else []
theorem keyC_len {a : List Letter} {w : List Int} (hw : w.length ≤ 1099511627776) : (keyC a w).length ≤ 4611686018427387904 := by
  unfold keyC; split
  · have := keyP_len4 a w 4 (by omega); omega
  · simp
theorem sectP_skip {a : List Letter} {w : List Int} {j : Nat} (h : j < w.length) (hn : isL a (w.getD j default) = false) : sectP a (w.drop j) = sectP a (w.drop (j + 1)) := by
  rw [drop_cons h]
  unfold sectP level lets
  rw [List.filter_cons_of_neg (by rw [hn]; simp)]
theorem sectP_hit {a : List Letter} {w : List Int} {j : Nat} (h : j < w.length) (hn : isL a (w.getD j default) = true) : sectP a (w.drop j) = (a.getD (w.getD j default).toNat default).base := by
  rw [drop_cons h]
  unfold sectP level lets
  rw [List.filter_cons_of_pos hn]
  rfl
def cmpK (a : List Letter) (k : Nat) (v w : List Int) : Int := order (keyP a v k) (keyP a w k)
def lessK (a : List Letter) (w : List Int) (k : Nat) (l : List (List Int)) : Nat := l.countP fun v => decide (cmpK a k v w = -1)
def sameK (a : List Letter) (w : List Int) (k : Nat) (l : List (List Int)) : Nat := l.countP fun v => decide (cmpK a k v w = 0)
theorem lessK_step {a : List Letter} {w : List Int} {k : Nat} {l : List (List Int)} {i : Nat} (h : i < l.length) : lessK a w k (l.take (i + 1)) = lessK a w k (l.take i) + if order (keyP a (l.getD i default) k) (keyP a w k) = -1 then 1 else 0 := by
  unfold lessK; rw [countP_take _ _ h]; unfold cmpK; simp only [decide_eq_true_eq]
theorem sameK_step {a : List Letter} {w : List Int} {k : Nat} {l : List (List Int)} {i : Nat} (h : i < l.length) : sameK a w k (l.take (i + 1)) = sameK a w k (l.take i) + if order (keyP a (l.getD i default) k) (keyP a w k) = 0 then 1 else 0 := by
  unfold sameK; rw [countP_take _ _ h]; unfold cmpK; simp only [decide_eq_true_eq]
end Go.Wb
