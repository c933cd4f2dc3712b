/-
  Plain functions: spoilt alphabets.
-/
import Derived.Test.YtcimmcjnkphagaaPi
namespace Go.Wb
open Go.Am
def manyL (i : Nat) : Letter := ⟨[UInt8.ofNat (IntKind.u8.wrap (97 + (i : Int) / 20)).toNat, UInt8.ofNat (IntKind.u8.wrap (97 + (i : Int) % 20)).toNat], i, 0, 0, 1⟩
def manyA (n : Nat) : List Letter := (List.range n).map manyL
theorem manyA_succ (n : Nat) : manyA (n + 1) = manyA n ++ [manyL n] := by unfold manyA; rw [List.range_succ, List.map_append]; rfl
theorem letters_flat (a : List Letter) : ∀ d ∈ flat (a.map letter), ∃ v, d = .sc v := by
  intro d hd
  unfold flat at hd
  obtain ⟨x, hx, hd⟩ := List.mem_flatMap.1 hd
  obtain ⟨y, _, rfl⟩ := List.mem_map.1 hx
  simp only [letter, AV.cells, List.mem_cons, List.not_mem_nil, or_false] at hd
  rcases hd with rfl | rfl | rfl | rfl | rfl <;> exact ⟨_, rfl⟩
def spoiltP (a : List Letter) (ati how bye : Int) : List Letter :=
  let k := (around ati a.length).toNat
  let x := a.getD k default
  if around how 13 = 0 then a.set k { x with text := [] } else
  if around how 13 = 1 then a.set k { x with text := (a.getD ((around ati a.length + 1) % a.length).toNat default).text } else
  if around how 13 = 2 then a.set k { x with text := [97, 98, 99, 100].take (1 + around bye 4).toNat ++ [120] } else
  if around how 13 = 3 then a.set k { x with text := [120] ++ [UInt8.ofNat (IntKind.u8.wrap (around bye 256)).toNat] } else
  if around how 13 = 4 then a.set k { x with base := bye } else
  if around how 13 = 5 then a.set k { x with base := around bye (a.length + 1) } else
  if around how 13 = 6 then a.set k { x with mark := bye } else
  if around how 13 = 7 then a.set k { x with mark := around bye 18 - 1 } else
  if around how 13 = 8 then a.set k { x with cap := around bye 4 - 1 } else
  if around how 13 = 9 then a.set k { x with width := bye } else
  if around how 13 = 10 then a.set k { x with width := [0, 1, 1000, 1001].getD (around bye 4).toNat default } else
  if around how 13 = 11 then manyA (58 + around bye 5).toNat else a.take k
end Go.Wb
