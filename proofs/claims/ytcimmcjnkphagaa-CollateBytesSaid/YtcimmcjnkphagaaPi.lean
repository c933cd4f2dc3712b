/-
  Plain functions: words.
-/
import Derived.Test.YtcimmcjnkphagaaPh
namespace Go.Wb
open Go.Am
def sisB (a : List Letter) (x src : Int) (i : Nat) : Bool := decide ((a.getD ((src + i) % a.length).toNat default).base = (a.getD x.toNat default).base)
def sister (a : List Letter) (x src : Int) : Int := if isL a x = true then match (List.range a.length).find? (sisB a x src) with
  | some i => (src + i) % a.length
  | none => x else x
theorem sister_hit {a : List Letter} {x src : Int} {i : Nat} (hx : isL a x = true) (hi : i < a.length) (h : ∀ j, j < i → sisB a x src j = false) (hb : sisB a x src i = true) : sister a x src = (src + i) % a.length := by
  have : (List.range a.length).find? (sisB a x src) = some i := by
    rw [List.find?_range_eq_some]
    exact ⟨hb, List.mem_range.2 hi, fun j hj => by rw [h j hj]; rfl⟩
  unfold sister; rw [if_pos hx, this]
theorem sister_none {a : List Letter} {x src : Int} {i : Nat} (hx : isL a x = true) (hi : a.length ≤ i) (h : ∀ j, j < i → sisB a x src j = false) : sister a x src = x := by
  have : (List.range a.length).find? (sisB a x src) = none := by
    rw [List.find?_range_eq_none]
    exact fun j hj => by rw [h j (by omega)]; rfl
  unfold sister; rw [if_pos hx, this]
theorem sister_out {a : List Letter} {x src : Int} (hx : isL a x = false) : sister a x src = x := by unfold sister; rw [if_neg (by rw [hx]; simp)]
def wX1 (a : List Letter) (l : List Int) (i : Nat) (last : List Int) (k : Nat) : Int := if numL l (7 * i + k) % 5 = 0 then (numL l (7 * i + k) / 5) % a.length else last.getD k default
def wX2 (a : List Letter) (l : List Int) (i : Nat) (last : List Int) (k : Nat) : Int := if numL l (7 * i + k) % 5 = 1 then sister a (wX1 a l i last k) (numL l (7 * i + k) / 5) else wX1 a l i last k
def wA (a : List Letter) (l : List Int) (i : Nat) (last : List Int) : Nat → List Int
  | 0 => []
  | k + 1 => if numL l (7 * i + k) % 11 = 2 then wA a l i last k else wA a l i last k ++ [wX2 a l i last k]
def wX (a : List Letter) (l : List Int) (i k : Nat) : Int := if numL l (5 * i + k) % (a.length + 1) = a.length then 63 else numL l (5 * i + k) % (a.length + 1)
def wB (a : List Letter) (l : List Int) (i : Nat) : Nat → List Int
  | 0 => []
  | k + 1 => wB a l i k ++ [wX a l i k]
def wI (a : List Letter) (l : List Int) (i : Nat) (last : List Int) : List Int := if 0 < i then wA a l i last last.length else []
def moreN (l : List Int) (i : Nat) : Int := numL l (3 * i + 1) % 4
def wordsN (a : List Letter) (l : List Int) : Nat → List (List Int)
  | 0 => []
  | i + 1 => wordsN a l i ++ [wI a l i ((wordsN a l i).getD (i - 1) default) ++ wB a l i (moreN l i).toNat]
theorem wA_len (a : List Letter) (l : List Int) (i : Nat) (last : List Int) : ∀ k, (wA a l i last k).length ≤ k
  | 0 => Nat.le_refl _
  | k + 1 => by
    have := wA_len a l i last k
    unfold wA; split
    · omega
    · simp; omega
theorem wB_len (a : List Letter) (l : List Int) (i : Nat) : ∀ k, (wB a l i k).length = k
  | 0 => rfl
  | k + 1 => by simp [wB, wB_len a l i k]
theorem moreN_bd (l : List Int) (i : Nat) : 0 ≤ moreN l i ∧ moreN l i < 4 := ⟨Int.emod_nonneg _ (by omega), Int.emod_lt_of_pos _ (by omega)⟩
theorem wI_len (a : List Letter) (l : List Int) (i : Nat) (last : List Int) : (wI a l i last).length ≤ last.length := by
  unfold wI; split
  · exact wA_len _ _ _ _ _
  · simp
theorem wordsN_len (a : List Letter) (l : List Int) : ∀ i, (wordsN a l i).length = i
  | 0 => rfl
  | i + 1 => by simp [wordsN, wordsN_len a l i]
theorem wordsN_get (a : List Letter) (l : List Int) : ∀ i, ∀ w ∈ wordsN a l i, w.length ≤ 3 * i
  | 0, w, h => by cases h
  | i + 1, w, h => by
    unfold wordsN at h
    rw [List.mem_append] at h
    rcases h with h | h
    · have := wordsN_get a l i w h; omega
    · simp only [List.mem_singleton] at h
      subst h
      have h1 := wI_len a l i ((wordsN a l i).getD (i - 1) default)
      have h2 := wB_len a l i (moreN l i).toNat
      have h3 := moreN_bd l i
      have h4 : ((wordsN a l i).getD (i - 1) default).length ≤ 3 * i := by
        rw [List.getD_eq_getElem?_getD]
        cases hk : (wordsN a l i)[i - 1]? with
        | none => exact Nat.zero_le _
        | some x => exact wordsN_get a l i x (List.mem_of_getElem? hk)
      simp only [List.length_append]
      omega
theorem wordsN_last (a : List Letter) (l : List Int) (i : Nat) : ((wordsN a l i).getD (i - 1) default).length ≤ 3 * i := by
  rw [List.getD_eq_getElem?_getD]
  cases hk : (wordsN a l i)[i - 1]? with
  | none => exact Nat.zero_le _
  | some x => exact wordsN_get a l i x (List.mem_of_getElem? hk)
def wordsP (a : List Letter) (l : List Int) (many : Int) : List (List Int) := wordsN a l many.toNat
end Go.Wb
