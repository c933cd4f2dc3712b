/-
  Plain functions: the program's order of indices.
-/
import Derived.Test.YtcimmcjnkphagaaPk
namespace Go.Wb
open Go.Am
def cmpS (ks : List (List Int)) (x y : Int) : Int := orInt [order (ks.getD x.toNat default) (ks.getD y.toNat default), cmpI x y]
def shortK (ks : List (List Int)) : Prop := ∀ v ∈ ks, v.length ≤ 4611686018427387904
theorem shortK.get {l : List (List Int)} (h : shortK l) (k : Nat) : (l.getD k default).length ≤ 4611686018427387904 := by
  rw [List.getD_eq_getElem?_getD]
  cases hk : l[k]? with
  | none => exact Nat.zero_le _
  | some x => exact h x (List.mem_of_getElem? hk)
end Go.Wb
