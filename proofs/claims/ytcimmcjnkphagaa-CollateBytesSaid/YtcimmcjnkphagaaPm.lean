/-
  Plain functions: laws of the order of lists; keys and levels compare alike; sorting.
-/
import Derived.Test.YtcimmcjnkphagaaPl
namespace Go.Wb
open Go.Am
theorem order_self : ∀ a : List Int, order a a = 0
  | [] => rfl
  | x :: xs => by rw [order, if_neg (by omega), if_neg (by omega)]; exact order_self xs
theorem order_neg : ∀ a b : List Int, order b a = -order a b
  | [], [] => rfl
  | [], _ :: _ => rfl
  | _ :: _, [] => rfl
  | x :: xs, y :: ys => by
    simp only [order]
    have := order_neg xs ys
    (repeat' split) <;> first | omega | rfl
theorem order_zero : ∀ {a b : List Int}, order a b = 0 → a = b
  | [], [], _ => rfl
  | [], _ :: _, h => by cases h
  | _ :: _, [], h => by cases h
  | x :: xs, y :: ys, h => by
    simp only [order] at h
    split at h
    · cases h
    · split at h
      · cases h
      · rw [order_zero h, show x = y by omega]
theorem order_eq0 {a b : List Int} : order a b = 0 ↔ a = b := ⟨order_zero, fun h => by rw [h]; exact order_self b⟩
theorem order_trans : ∀ {a b c : List Int}, order a b < 0 → order b c < 0 → order a c < 0
  | [], [], _, h, _ => by cases h
  | [], _ :: _, [], _, h => by cases h
  | [], _ :: _, _ :: _, _, _ => by show (-1 : Int) < 0; decide
  | _ :: _, [], _, h, _ => by cases h
  | _ :: _, _ :: _, [], _, h => by cases h
  | x :: xs, y :: ys, z :: zs, h, k => by
    simp only [order] at h k ⊢
    by_cases hxy : x < y
    · by_cases hyz : y < z
      · rw [if_pos (by omega)]; decide
      · rw [if_neg hyz] at k
        by_cases hzy : z < y
        · rw [if_pos hzy] at k; cases k
        · rw [if_pos (by omega)]; decide
    · rw [if_neg hxy] at h
      by_cases hyx : y < x
      · rw [if_pos hyx] at h; cases h
      · rw [if_neg hyx] at h
        by_cases hyz : y < z
        · rw [if_pos (by omega)]; decide
        · rw [if_neg hyz] at k
          by_cases hzy : z < y
          · rw [if_pos hzy] at k; cases k
          · rw [if_neg hzy] at k
            rw [if_neg (by omega), if_neg (by omega)]
            exact order_trans h k
theorem order_lt_le {a b c : List Int} (h : order a b ≤ 0) (k : order b c ≤ 0) : order a c ≤ 0 := by
  by_cases h0 : order a b = 0
  · rw [order_zero h0]; exact k
  · by_cases k0 : order b c = 0
    · rw [← order_zero k0]; exact h
    · have := order_trans (a := a) (b := b) (c := c) (by omega) (by omega); omega
theorem order_inc : ∀ a b : List Int, order (a.map (· + 1)) (b.map (· + 1)) = order a b
  | [], [] => rfl
  | [], _ :: _ => rfl
  | _ :: _, [] => rfl
  | x :: xs, y :: ys => by
    simp only [List.map_cons, order, order_inc xs ys]
    by_cases h : x < y
    · rw [if_pos h, if_pos (by omega)]
    · rw [if_neg h, if_neg (by omega)]
      by_cases h2 : y < x
      · rw [if_pos h2, if_pos (by omega)]
      · rw [if_neg h2, if_neg (by omega)]
/-- Lists of positive numbers, each ended by a 0. -/
theorem order_sep : ∀ {x y : List Int} (s t : List Int), (∀ z ∈ x, 0 < z) → (∀ z ∈ y, 0 < z) → order (x ++ 0 :: s) (y ++ 0 :: t) = if order x y ≠ 0 then order x y else order s t
  | [], [], s, t, _, _ => by simp [order]
  | [], y :: ys, s, t, _, hy => by
    have := hy y List.mem_cons_self
    simp only [List.nil_append, List.cons_append, order]
    rw [if_pos this]; rfl
  | x :: xs, [], s, t, hx, _ => by
    have := hx x List.mem_cons_self
    simp only [List.nil_append, List.cons_append, order]
    rw [if_neg (by omega), if_pos this]; rfl
  | x :: xs, y :: ys, s, t, hx, hy => by
    have ih := order_sep s t (fun z hz => hx z (List.mem_cons_of_mem _ hz)) (fun z hz => hy z (List.mem_cons_of_mem _ hz))
    simp only [List.cons_append, order, ih]
    (repeat' split) <;> first | rfl | omega
theorem inc_pos {a : List Letter} (h : validA a = true) (w : List Int) (k : Int) : ∀ z ∈ (level a w k).map (· + 1), 0 < z := by
  intro z hz
  obtain ⟨x, hx, rfl⟩ := List.mem_map.1 hz
  have := level_bd h w k x hx; omega
theorem key1 (a : List Letter) (w : List Int) : keyP a w 1 = (level a w 1).map (· + 1) := by simp [keyP, sep]
theorem key2 (a : List Letter) (w : List Int) : keyP a w 2 = (level a w 1).map (· + 1) ++ 0 :: (level a w 2).map (· + 1) := by simp [keyP, sep]
theorem key3 (a : List Letter) (w : List Int) : keyP a w 3 = (level a w 1).map (· + 1) ++ 0 :: ((level a w 2).map (· + 1) ++ 0 :: (level a w 3).map (· + 1)) := by simp [keyP, sep]
theorem key4 (a : List Letter) (w : List Int) : keyP a w 4 = (level a w 1).map (· + 1) ++ 0 :: ((level a w 2).map (· + 1) ++ 0 :: ((level a w 3).map (· + 1) ++ 0 :: (level a w 4).map (· + 1))) := by simp [keyP, sep]
/-- The keys up to a level compare as the levels do. -/
theorem key_upto {a : List Letter} (h : validA a = true) (v w : List Int) {k : Nat} (hk : k ≤ 4) : order (keyP a v k) (keyP a w k) = upto a v w k 1 := by
  have u0 : ∀ i, upto a v w 0 i = 0 := fun _ => rfl
  have us : ∀ n i, upto a v w (n + 1) i = if order (level a v i) (level a w i) ≠ 0 then order (level a v i) (level a w i) else upto a v w n (i + 1) := fun _ _ => rfl
  have hz : ∀ c : Int, (if c ≠ 0 then c else 0) = c := fun c => by split <;> omega
  match k, hk with
  | 0, _ => rfl
  | 1, _ => rw [key1, key1, order_inc, us, u0, hz]
  | 2, _ => rw [key2, key2, order_sep _ _ (inc_pos h v 1) (inc_pos h w 1), order_inc, order_inc, us, us, u0, hz]; rfl
  | 3, _ => rw [key3, key3, order_sep _ _ (inc_pos h v 1) (inc_pos h w 1), order_sep _ _ (inc_pos h v 2) (inc_pos h w 2), order_inc, order_inc, order_inc, us, us, us, u0, hz]; rfl
  | 4, _ => rw [key4, key4, order_sep _ _ (inc_pos h v 1) (inc_pos h w 1), order_sep _ _ (inc_pos h v 2) (inc_pos h w 2), order_sep _ _ (inc_pos h v 3) (inc_pos h w 3), order_inc, order_inc, order_inc, order_inc, us, us, us, us, u0, hz]; rfl

/-! ### sorting -/
theorem cmpS_lt {ks : List (List Int)} {x y : Int} : cmpS ks x y < 0 ↔ order (ks.getD x.toNat default) (ks.getD y.toNat default) < 0 ∨ order (ks.getD x.toNat default) (ks.getD y.toNat default) = 0 ∧ x < y := by
  unfold cmpS
  generalize order (ks.getD x.toNat default) (ks.getD y.toNat default) = c
  rw [show ∀ d : Int, orInt [c, d] = if c ≠ 0 then c else if d ≠ 0 then d else 0 from fun _ => rfl]
  unfold cmpI
  (repeat' split) <;> omega
theorem cmpS_irr (ks : List (List Int)) (x : Int) : ¬ cmpS ks x x < 0 := by rw [cmpS_lt, order_self]; omega
theorem cmpS_trans {ks : List (List Int)} {x y z : Int} (h : cmpS ks x y < 0) (k : cmpS ks y z < 0) : cmpS ks x z < 0 := by
  rw [cmpS_lt] at *
  rcases h with h | ⟨h, h'⟩
  · rcases k with k | ⟨k, k'⟩
    · exact .inl (order_trans h k)
    · rw [← order_zero k]; exact .inl h
  · rw [order_zero h]
    rcases k with k | ⟨k, k'⟩
    · exact .inl k
    · exact .inr ⟨k, by omega⟩
theorem cmpS_tot {ks : List (List Int)} {x y : Int} (h : ¬ cmpS ks x y < 0) (k : ¬ cmpS ks y x < 0) : x = y := by
  rw [cmpS_lt] at *
  rw [order_neg] at k
  omega
/-- Two strictly ascending lists with the same elements are one. -/
theorem asc_unique {α : Type} {R : α → α → Prop} (has : ∀ x y, R x y → ¬ R y x) : ∀ {l m : List α}, l.Perm m → l.Pairwise R → m.Pairwise R → l = m
  | [], m, hp, _, _ => hp.nil_eq
  | x :: xs, [], hp, _, _ => hp.eq_nil
  | x :: xs, y :: ys, hp, hl, hm => by
    rw [List.pairwise_cons] at hl hm
    have hxy : x = y := by
      have h1 : x ∈ y :: ys := hp.subset List.mem_cons_self
      have h2 : y ∈ x :: xs := hp.symm.subset List.mem_cons_self
      rcases List.mem_cons.1 h1 with h1 | h1
      · exact h1
      · rcases List.mem_cons.1 h2 with h2 | h2
        · exact h2.symm
        · exact absurd (hl.1 y h2) (has _ _ (hm.1 x h1))
    subst hxy
    rw [asc_unique has (List.perm_cons x |>.1 hp) hl.2 hm.2]
theorem posR_gt (gt : Int → Bool) (s : List Int) : ∀ k j, posR gt s k ≤ j → j < k → gt (s.getD j default) = true
  | 0, j, _, h => by omega
  | k + 1, j, h1, h2 => by
    unfold posR at h1
    split at h1
    · rename_i hg
      by_cases hj : j = k
      · subst hj; exact hg
      · exact posR_gt gt s k j h1 (by omega)
    · omega
theorem posR_not (gt : Int → Bool) (s : List Int) : ∀ k, 0 < posR gt s k → gt (s.getD (posR gt s k - 1) default) = false
  | 0, h => by simp [posR] at h
  | k + 1, h => by
    unfold posR at h ⊢
    split
    · rename_i hg
      rw [if_pos hg] at h
      exact posR_not gt s k h
    · rename_i hg
      rw [Nat.add_sub_cancel]
      cases hh : gt (s.getD k default)
      · rfl
      · exact absurd hh hg
def ints0 (n : Nat) : List Int := (List.range n).map fun i : Nat => (i : Int)
theorem ints0_succ (n : Nat) : ints0 (n + 1) = ints0 n ++ [(n : Int)] := by simp [ints0, List.range_succ]
theorem ints0_mem {n : Nat} {x : Int} : x ∈ ints0 n ↔ 0 ≤ x ∧ x < n := by
  unfold ints0
  rw [List.mem_map]
  constructor
  · rintro ⟨i, hi, rfl⟩; have := List.mem_range.1 hi; omega
  · rintro ⟨h1, h2⟩; exact ⟨x.toNat, List.mem_range.2 (by omega), by omega⟩
theorem sortN_perm (a : List Letter) (l : List (List Int)) : ∀ i, (sortN a l i).Perm (ints0 i)
  | 0 => List.Perm.nil
  | i + 1 => by
    rw [sortN, insAt, ints0_succ]
    refine List.perm_middle.trans ?_
    rw [List.take_append_drop]
    exact (List.Perm.cons _ (sortN_perm a l i)).trans (List.perm_append_singleton _ _).symm
def keysP (a : List Letter) (l : List (List Int)) : List (List Int) := l.map fun w => keyP a w 4
theorem keysP_get {a : List Letter} {l : List (List Int)} {k : Nat} (hk : k < l.length) : (keysP a l).getD k default = keyP a (l.getD k default) 4 := by
  unfold keysP
  rw [List.getD_eq_getElem?_getD, List.getD_eq_getElem?_getD, List.getElem?_map, List.getElem?_eq_getElem hk]; rfl
theorem sortN_asc {a : List Letter} (h : validA a = true) {l : List (List Int)} : ∀ {i}, i ≤ l.length → (sortN a l i).Pairwise fun x y => cmpS (keysP a l) x y < 0
  | 0, _ => List.Pairwise.nil
  | i + 1, hi => by
    have ih := sortN_asc h (l := l) (i := i) (by omega)
    have hg : ∀ x : Int, 0 ≤ x → x < i → (gtW a l x i = true ↔ 0 < order ((keysP a l).getD x.toNat default) ((keysP a l).getD ((i : Int)).toNat default)) := fun x h1 h2 => by
      unfold gtW
      rw [decide_eq_true_eq, keysP_get (by omega), keysP_get (by omega), key_upto h _ _ (by omega)]; rfl
    have hm := sortN_mem a l i
    have hlen := sortN_len a l i
    rw [sortN, insAt, hlen]
    generalize hq : posR (fun x => gtW a l x i) (sortN a l i) i = q
    have hql : q ≤ i := by rw [← hq]; exact posR_le _ _ _
    have hafter : ∀ y ∈ (sortN a l i).drop q, cmpS (keysP a l) i y < 0 := by
      intro y hy
      obtain ⟨j, hj, rfl⟩ := List.getElem_of_mem hy
      rw [List.length_drop, hlen] at hj
      have h1 := posR_gt (fun x => gtW a l x i) (sortN a l i) i (q + j) (by omega) (by omega)
      rw [List.getD_eq_getElem?_getD, List.getElem?_eq_getElem (by omega), Option.getD_some] at h1
      rw [List.getElem_drop]
      have hb := hm _ (List.getElem_mem (show q + j < (sortN a l i).length by omega))
      have h2 := (hg _ hb.1 hb.2).1 h1
      rw [cmpS_lt, order_neg]
      exact .inl (by omega)
    have hbefore : ∀ y ∈ (sortN a l i).take q, cmpS (keysP a l) y i < 0 := by
      intro y hy
      have hq0 : 0 < q := by
        rcases Nat.eq_zero_or_pos q with h0 | h0
        · rw [h0] at hy; simp at hy
        · exact h0
      have h1 := posR_not (fun x => gtW a l x i) (sortN a l i) i (by omega)
      rw [hq, List.getD_eq_getElem?_getD, List.getElem?_eq_getElem (by omega), Option.getD_some] at h1
      have hb := hm _ (List.getElem_mem (show q - 1 < (sortN a l i).length by omega))
      have h2 : ¬ 0 < order _ _ := fun h' => by rw [(hg _ hb.1 hb.2).2 h'] at h1; cases h1
      have h3 : cmpS (keysP a l) ((sortN a l i)[q - 1]'(by omega)) i < 0 := by rw [cmpS_lt]; omega
      obtain ⟨j, hj, rfl⟩ := List.getElem_of_mem hy
      rw [List.length_take, hlen] at hj
      rw [List.getElem_take]
      by_cases hj1 : j = q - 1
      · subst hj1; exact h3
      · have := List.pairwise_iff_getElem.1 ih j (q - 1) (by omega) (by omega) (by omega)
        exact cmpS_trans this h3
    rw [List.pairwise_append, List.pairwise_cons]
    have hsplit := List.pairwise_append.1 (by rw [List.take_append_drop]; exact ih : ((sortN a l i).take q ++ (sortN a l i).drop q).Pairwise _)
    refine ⟨hsplit.1, ⟨hafter, hsplit.2.1⟩, fun x hx y hy => ?_⟩
    rcases List.mem_cons.1 hy with rfl | hy
    · exact hbefore x hx
    · exact hsplit.2.2 x hx y hy
theorem sort_same {a : List Letter} (h : validA a = true) (l : List (List Int)) : ((ints0 l.length).mergeSort fun x y => !decide (cmpS (keysP a l) y x < 0)) = sortN a l l.length := by
  refine asc_unique (R := fun x y => cmpS (keysP a l) x y < 0) (fun x y h1 h2 => cmpS_irr _ _ (cmpS_trans h1 h2)) ((List.mergeSort_perm _ _).trans (sortN_perm a l _).symm) ?_ (sortN_asc h (Nat.le_refl _))
  have hs := List.pairwise_mergeSort (le := fun x y => !decide (cmpS (keysP a l) y x < 0)) (fun x y z h1 h2 => by
    simp only [Bool.not_eq_true', decide_eq_false_iff_not] at *
    intro h3
    by_cases hxy : x = y
    · subst hxy; exact h2 h3
    · have : cmpS (keysP a l) x y < 0 := Classical.byContradiction fun hn => hxy (cmpS_tot hn h1)
      exact h2 (cmpS_trans h3 this)) (fun x y => by
    by_cases h1 : cmpS (keysP a l) y x < 0
    · have : ¬ cmpS (keysP a l) x y < 0 := fun h2 => cmpS_irr _ _ (cmpS_trans h1 h2)
      simp [this]
    · simp [h1]) (ints0 l.length)
  have hnd : ((ints0 l.length).mergeSort fun x y => !decide (cmpS (keysP a l) y x < 0)).Nodup := by
    refine (List.mergeSort_perm _ _).nodup_iff.2 ?_
    unfold ints0
    rw [List.nodup_iff_pairwise_ne, List.pairwise_map]
    exact (List.nodup_iff_pairwise_ne.1 List.nodup_range).imp fun h => by omega
  refine (hs.and (List.nodup_iff_pairwise_ne.1 hnd)).imp fun {x y} h => ?_
  simp only [Bool.not_eq_true', decide_eq_false_iff_not] at h
  exact Classical.byContradiction fun hn => h.2 (cmpS_tot hn h.1)
end Go.Wb
