/-
  Plain functions: the reference's order of words.
-/
import Derived.Test.YtcimmcjnkphagaaPj
namespace Go.Wb
open Go.Am
def gtW (a : List Letter) (l : List (List Int)) (x i : Int) : Bool := decide (0 < upto a (l.getD x.toNat default) (l.getD i.toNat default) (4 : Int).toNat 1)
def posR (gt : Int → Bool) (s : List Int) : Nat → Nat
  | 0 => 0
  | k + 1 => if gt (s.getD k default) = true then posR gt s k else k + 1
def insAt (gt : Int → Bool) (s : List Int) (i : Int) : List Int := s.take (posR gt s s.length) ++ i :: s.drop (posR gt s s.length)
theorem posR_le (gt : Int → Bool) (s : List Int) : ∀ k, posR gt s k ≤ k
  | 0 => Nat.le_refl _
  | k + 1 => by
    have := posR_le gt s k
    unfold posR; split <;> omega
theorem insAt_len (gt : Int → Bool) (s : List Int) (i : Int) : (insAt gt s i).length = s.length + 1 := by
  have := posR_le gt s s.length
  unfold insAt; simp; omega
theorem insAt_mem {gt : Int → Bool} {s : List Int} {i x : Int} : x ∈ insAt gt s i ↔ x = i ∨ x ∈ s := by
  unfold insAt
  rw [List.mem_append, List.mem_cons]
  constructor
  · rintro (h | h | h)
    · exact .inr (List.mem_of_mem_take h)
    · exact .inl h
    · exact .inr (List.mem_of_mem_drop h)
  · rintro (h | h)
    · exact .inr (.inl h)
    · rw [← List.take_append_drop (posR gt s s.length) s, List.mem_append] at h
      exact h.imp id .inr
def sortN (a : List Letter) (l : List (List Int)) : Nat → List Int
  | 0 => []
  | i + 1 => insAt (fun x => gtW a l x i) (sortN a l i) i
theorem sortN_len (a : List Letter) (l : List (List Int)) : ∀ i, (sortN a l i).length = i
  | 0 => rfl
  | i + 1 => by rw [sortN, insAt_len, sortN_len a l i]
theorem sortN_mem (a : List Letter) (l : List (List Int)) : ∀ i, ∀ x ∈ sortN a l i, 0 ≤ x ∧ x < i
  | 0, x, h => by cases h
  | i + 1, x, h => by
    rw [sortN, insAt_mem] at h
    rcases h with rfl | h
    · omega
    · have := sortN_mem a l i x h; omega
theorem sortN_bd (a : List Letter) (l : List (List Int)) {i k : Nat} (hk : k < i) : 0 ≤ (sortN a l i).getD k default ∧ (sortN a l i).getD k default < i := by
  rw [List.getD_eq_getElem?_getD, List.getElem?_eq_getElem (by rw [sortN_len]; exact hk)]
  exact sortN_mem a l i _ (List.getElem_mem _)
theorem sh_get {s : List Int} {g : Int} {k : Nat} (h : 0 < k) (hk : k ≤ s.length) : (s.take k ++ g :: s.drop k).getD ((k : Int) - 1).toNat default = s.getD (k - 1) default := by
  rw [show ((k : Int) - 1).toNat = k - 1 by omega, List.getD_eq_getElem?_getD, List.getElem?_append_left (by rw [List.length_take]; omega), List.getElem?_take, if_pos (by omega), List.getD_eq_getElem?_getD]
theorem sh_set {s : List Int} {g v : Int} {k : Nat} (hk : k ≤ s.length) : ((s.take k ++ g :: s.drop k).map int).set k (int v) = (s.take k ++ v :: s.drop k).map int := by
  rw [← List.map_set, List.set_append_right _ _ (by rw [List.length_take]; omega)]
  rw [List.length_take, Nat.min_eq_left hk, Nat.sub_self, List.set_cons_zero]
theorem sh_step {s : List Int} {k : Nat} (h : 0 < k) (hk : k ≤ s.length) : s.take k ++ s.getD (k - 1) default :: s.drop k = s.take (k - 1) ++ s.getD (k - 1) default :: s.drop (k - 1) := by
  have h1 : s.take k = s.take (k - 1) ++ [s.getD (k - 1) default] := by
    have := take_succ (l := s) (k := k - 1) (by omega)
    rwa [show k - 1 + 1 = k by omega] at this
  have h2 : s.drop (k - 1) = s.getD (k - 1) default :: s.drop k := by
    have := drop_cons (l := s) (k := k - 1) (by omega)
    rwa [show k - 1 + 1 = k by omega] at this
  rw [h1, h2, List.append_assoc]; rfl
theorem posR_step {gt : Int → Bool} {s : List Int} {k : Nat} (h : 0 < k) (hg : gt (s.getD (k - 1) default) = true) : posR gt s k = posR gt s (k - 1) := by
  obtain ⟨j, rfl⟩ : ∃ j, k = j + 1 := ⟨k - 1, by omega⟩
  rw [posR, Nat.add_sub_cancel] at *
  rw [if_pos hg]
theorem posR_stop {gt : Int → Bool} {s : List Int} {k : Nat} (h : k = 0 ∨ gt (s.getD (k - 1) default) = false) : posR gt s k = k := by
  cases k with
  | zero => rfl
  | succ j =>
    rcases h with h | h
    · omega
    · rw [Nat.add_sub_cancel] at h
      rw [posR, if_neg (by rw [h]; simp)]
def sortP (a : List Letter) (l : List (List Int)) : List Int := if validA a = true then sortN a l l.length else []
end Go.Wb
