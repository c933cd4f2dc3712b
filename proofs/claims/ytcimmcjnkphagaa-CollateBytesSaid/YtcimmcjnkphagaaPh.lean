/-
  Plain functions: the given alphabets and words.
-/
import Derived.Test.YtcimmcjnkphagaaPg
import Derived.Test.YtcimmcjnkphagaaAm15
namespace Go.Wb
open Go.Am
abbrev poolL : List (List UInt8) := [[97], [98], [99], [101], [105], [110], [115], [116], [99, 104], [195, 169], [65], [115, 99, 104], [104], [108], [195, 182], [117]]
def atV (l : List Int) (i most : Int) : Int := atL l i most
def letter0 (l : List Int) (start : Int) (i : Nat) : Letter := ⟨poolL.getD ((start + i) % 16).toNat default, i, 0, 0, 1 + atL l (2 + i) 9⟩
def letterI (l : List Int) (start : Int) (a : List Letter) (i : Nat) : Letter :=
  if 0 < i ∧ atL l (10 + i) 3 = 1 then { letter0 l start i with base := (a.getD (atL l (20 + i) i).toNat default).base, mark := atL l (30 + i) 4, cap := atL l (40 + i) 2 } else letter0 l start i
def lettersN (l : List Int) (start : Int) : Nat → List Letter
  | 0 => []
  | i + 1 => lettersN l start i ++ [letterI l start (lettersN l start i) i]
def lettersP (l : List Int) : List Letter := lettersN l (atL l 1 16) (3 + atL l 0 6).toNat
theorem lettersN_len (l : List Int) (start : Int) : ∀ i, (lettersN l start i).length = i
  | 0 => rfl
  | i + 1 => by simp [lettersN, lettersN_len l start i]
theorem take_min {l : List Int} {n : Int} : l.take (if n < (l.length : Int) then n else (l.length : Int)).toNat = l.take n.toNat := by
  split
  · rfl
  · rw [Int.toNat_natCast, List.take_length, List.take_of_length_le (by omega)]
abbrev smallP : List Letter := [⟨[97], 0, 0, 0, 5⟩, ⟨[98], 1, 0, 0, 6⟩, ⟨[99], 2, 0, 0, 5⟩, ⟨[101], 3, 0, 0, 5⟩, ⟨[110], 4, 0, 0, 6⟩, ⟨[115], 5, 0, 0, 4⟩, ⟨[116], 6, 0, 0, 3⟩, ⟨[99, 104], 7, 0, 0, 10⟩, ⟨[195, 169], 3, 1, 0, 5⟩, ⟨[65], 0, 0, 1, 7⟩]
def manyP (n : Nat) : List Letter := (List.range n).map fun i => ⟨[UInt8.ofNat (97 + i / 20), UInt8.ofNat (97 + i % 20)], i, 0, 0, 1⟩
def bigL (l : List (List Int)) : Prop := ∀ v ∈ l, v.length ≤ 9223372036854775807
theorem bigL.get {l : List (List Int)} (h : bigL l) (k : Nat) : (l.getD k default).length ≤ 9223372036854775807 := by
  rw [List.getD_eq_getElem?_getD]
  cases hk : l[k]? with
  | none => exact Nat.zero_le _
  | some x => exact h x (List.mem_of_getElem? hk)
def rawP (l : List (List Int)) : List (List Int) := (l.take 8).map (List.take 12)
end Go.Wb
