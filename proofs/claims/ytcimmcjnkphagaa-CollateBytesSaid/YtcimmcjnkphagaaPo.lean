/-
  Plain functions: what the laws compare; the given alphabets are valid.
-/
import Derived.Test.YtcimmcjnkphagaaPn
namespace Go.Wb
open Go.Am
def shortV (w : List (List Int)) : Prop := w.length ≤ 2000 ∧ ∀ v ∈ w, v.length ≤ 3000
theorem shortV.short {w : List (List Int)} (h : shortV w) : shortL w := fun v hv => by have := h.2 v hv; omega
theorem third_len (a b : List (List Int)) : (((List.map ints a ++ List.map ints b).length : Int) / 3).toNat = (a ++ b).length / 3 := by
  simp only [List.length_append, List.length_map]; omega
theorem cmp_same (a : List Letter) (v w : List Int) : order (keyC a v) (keyC a w) = if validA a = true then upto a v w 4 1 else 0 := by
  unfold keyC
  by_cases h : validA a = true
  · rw [if_pos h, if_pos h, if_pos h]; exact key_upto h v w (by omega)
  · rw [if_neg h, if_neg h, if_neg h]; rfl
theorem same_same (a : List Letter) (v w : List Int) (k : Int) : ((decide (1 ≤ k) && (decide (k ≤ 4) && validA a)) && decide (keyP a v k.toNat = keyP a w k.toNat)) = (validA a && (decide (1 ≤ k) && (decide (k ≤ 4) && decide (upto a v w k.toNat 1 = 0)))) := by
  cases h : validA a
  · simp
  · by_cases h1 : 1 ≤ k
    · by_cases h2 : k ≤ 4
      · have := key_upto h v w (k := k.toNat) (by omega)
        have e : (keyP a v k.toNat = keyP a w k.toNat) ↔ upto a v w k.toNat 1 = 0 := by rw [← order_eq0, this]
        simp [h1, h2, e]
      · simp [h2]
    · simp [h1]
theorem less_same {a : List Letter} (h : validA a = true) (w : List Int) {k : Nat} (hk : k ≤ 4) (l : List (List Int)) : lessK a w k l = lessN a w k l := by
  unfold lessK lessN cmpK
  congr 1
  funext v
  rw [key_upto h v w hk]
  have := order_bd (keyP a v k) (keyP a w k)
  rw [key_upto h v w hk] at this
  congr 1
  apply propext; omega
theorem same_sameN {a : List Letter} (h : validA a = true) (w : List Int) {k : Nat} (hk : k ≤ 4) (l : List (List Int)) : sameK a w k l = sameN a w k l := by
  unfold sameK sameN cmpK
  congr 1
  funext v
  rw [key_upto h v w hk]
theorem find_same1 (a : List Letter) (w : List Int) (k : Int) (l : List (List Int)) : (if validA a = true ∧ 1 ≤ k ∧ k ≤ 4 then lessK a w k.toNat l else 0) = if validA a = true ∧ 1 ≤ k ∧ k ≤ 4 then lessN a w k.toNat l else 0 := by
  split
  · rename_i h; exact less_same h.1 w (by omega) l
  · rfl
theorem find_same2 (a : List Letter) (w : List Int) (k : Int) (l : List (List Int)) : (if validA a = true ∧ 1 ≤ k ∧ k ≤ 4 then lessK a w k.toNat l + sameK a w k.toNat l else 0) = if validA a = true ∧ 1 ≤ k ∧ k ≤ 4 then lessN a w k.toNat l + sameN a w k.toNat l else 0 := by
  split
  · rename_i h; rw [less_same h.1 w (by omega) l, same_sameN h.1 w (by omega) l]
  · rfl
theorem sort_len (a : List Letter) (l : List (List Int)) : (if validA a = true then sortN a l l.length else []).length ≤ l.length := by
  split
  · rw [sortN_len]; exact Nat.le_refl _
  · exact Nat.zero_le _
/-! ### letters -/
theorem lettersN_get (l : List Int) (s : Int) : ∀ {i j : Nat}, j < i → (lettersN l s i).getD j default = letterI l s (lettersN l s j) j
  | 0, j, h => by omega
  | i + 1, j, h => by
    have hl := lettersN_len l s i
    rw [lettersN, List.getD_eq_getElem?_getD]
    by_cases hj : j = i
    · subst hj
      rw [List.getElem?_append_right (by omega), hl, Nat.sub_self]; rfl
    · rw [List.getElem?_append_left (by omega), ← List.getD_eq_getElem?_getD]
      exact lettersN_get l s (by omega)
theorem lettersN_base (l : List Int) (s : Int) (i : Nat) : ∀ j, j < i → 0 ≤ ((lettersN l s i).getD j default).base ∧ ((lettersN l s i).getD j default).base ≤ j ∧
    ((lettersN l s i).getD ((lettersN l s i).getD j default).base.toNat default).base = ((lettersN l s i).getD j default).base ∧ (((lettersN l s i).getD j default).base = j → ((lettersN l s i).getD j default).mark = 0 ∧ ((lettersN l s i).getD j default).cap = 0) := by
  intro j
  induction j using Nat.strongRecOn with
  | _ j ih =>
    intro hj
    have hx := lettersN_get l s hj
    by_cases hc : 0 < j ∧ atL l (10 + j) 3 = 1
    · have hq := atL_lt (l := l) (i := 20 + j) (most := j) (by omega)
      have hb : ((lettersN l s i).getD j default).base = ((lettersN l s i).getD (atL l (20 + j) j).toNat default).base := by
        rw [hx, letterI, if_pos hc, lettersN_get l s (i := i) (by omega), lettersN_get l s (i := j) (by omega)]
      obtain ⟨h1, h2, h3, h4⟩ := ih (atL l (20 + j) j).toNat (by omega) (by omega)
      rw [hb]
      refine ⟨h1, by omega, h3, fun h => ?_⟩
      omega
    · have hb : (lettersN l s i).getD j default = letter0 l s j := by rw [hx, letterI, if_neg hc]
      rw [hb]
      have e : (letter0 l s j).base = (j : Int) := rfl
      rw [e, Int.toNat_natCast, hb, e]
      exact ⟨by omega, by omega, rfl, fun _ => ⟨rfl, rfl⟩⟩
theorem letterI_nums (l : List Int) (s : Int) (a : List Letter) (j : Nat) : 0 ≤ (letterI l s a j).mark ∧ (letterI l s a j).mark ≤ 15 ∧ 0 ≤ (letterI l s a j).cap ∧ (letterI l s a j).cap ≤ 1 ∧ 1 ≤ (letterI l s a j).width ∧ (letterI l s a j).width ≤ 1000 := by
  have b1 := atL_lt (l := l) (i := 2 + j) (most := 9) (by decide)
  have b3 := atL_lt (l := l) (i := 30 + j) (most := 4) (by decide)
  have b4 := atL_lt (l := l) (i := 40 + j) (most := 2) (by decide)
  unfold letterI letter0
  split <;> (simp only []; omega)
theorem letterI_txt (l : List Int) (s : Int) (a : List Letter) (j : Nat) : (letterI l s a j).text = poolL.getD ((s + j) % 16).toNat default := by
  unfold letterI letter0; split <;> rfl
theorem pool_plain : ∀ n, n < 16 → plainT (poolL.getD n default) = true := by decide
theorem pool_apart : ∀ s, s < 16 → ∀ j, j < 8 → ∀ k, k < j → poolL.getD ((s + k) % 16) default ≠ poolL.getD ((s + j) % 16) default := by decide +kernel
theorem lettersP_valid (l : List Int) : validA (lettersP l) = true := by
  have hs := atL_lt (l := l) (i := 1) (most := 16) (by decide)
  have hlen := lettersP_len l
  generalize hi : (3 + atL l 0 6).toNat = i
  generalize hss : atL l 1 16 = s at hs
  have ha : lettersP l = lettersN l s i := by unfold lettersP; rw [hi, hss]
  rw [ha] at hlen ⊢
  rw [lettersN_len] at hlen
  have hn := lettersN_len l s i
  refine validA_good (n := i) (by omega) (by omega) fun j hj => ?_
  obtain ⟨h1, h2, h3, h4⟩ := lettersN_base l s i j hj
  have hx := lettersN_get l s hj
  have hm := letterI_nums l s (lettersN l s j) j
  rw [← hx] at hm
  have ht : ∀ k, k < i → ((lettersN l s i).getD k default).text = poolL.getD ((s.toNat + k) % 16) default := fun k hk => by
    rw [lettersN_get l s hk, letterI_txt]
    congr 1; omega
  refine ⟨⟨?_, h1, by omega, h3, hm.1, hm.2.1, hm.2.2.1, hm.2.2.2.1, hm.2.2.2.2.1, hm.2.2.2.2.2⟩, h4, fun k hk => ?_⟩
  · rw [ht j hj]; exact pool_plain _ (Nat.mod_lt _ (by decide))
  · rw [ht j hj, ht k (by omega)]
    exact pool_apart s.toNat (by omega) j (by omega) k hk
theorem key_level {a : List Letter} (h : validA a = true) (v w : List Int) : order (keyC a v) (keyC a w) = 0 ↔ level a v 4 = level a w 4 := by
  rw [cmp_same, if_pos h]
  have us : ∀ n i, upto a v w (n + 1) i = if order (level a v i) (level a w i) ≠ 0 then order (level a v i) (level a w i) else upto a v w n (i + 1) := fun _ _ => rfl
  have u0 : ∀ i, upto a v w 0 i = 0 := fun _ => rfl
  constructor
  · intro hu
    rw [us, us, us, us, u0] at hu
    rw [← order_eq0]
    (repeat' split at hu) <;> simp_all
  · intro he
    have hl : lets a v = lets a w := by
      have : ∀ u, level a u 4 = lets a u := fun u => by
        unfold level
        rw [if_pos (by omega)]
        have : (lets a u).map (lev a 4) = (lets a u).map id := List.map_congr_left fun x _ => rfl
        rw [this, List.map_id]
      rw [this, this] at he; exact he
    have hk : ∀ k, order (level a v k) (level a w k) = 0 := fun k => by
      rw [order_eq0]; unfold level; rw [hl]
    rw [us, us, us, us, u0]
    simp [hk]
end Go.Wb
