/-
  Plain functions: sections and ranges in the order of words.
-/
import Derived.Test.YtcimmcjnkphagaaPo
namespace Go.Wb
open Go.Am
theorem upto4 (a : List Letter) (v w : List Int) : upto a v w 4 1 = if order (level a v 1) (level a w 1) ≠ 0 then order (level a v 1) (level a w 1) else upto a v w 3 2 := rfl
theorem upto_le {a : List Letter} {v w : List Int} : ∀ {n m : Nat} {i : Int}, n ≤ m → upto a v w m i ≤ 0 → upto a v w n i ≤ 0
  | 0, _, _, _, _ => by simp [upto]
  | n + 1, m, i, hm, h => by
    obtain ⟨k, rfl⟩ : ∃ k, m = k + 1 := ⟨m - 1, by omega⟩
    have e1 : upto a v w (n + 1) i = if order (level a v i) (level a w i) ≠ 0 then order (level a v i) (level a w i) else upto a v w n (i + 1) := rfl
    have e2 : upto a v w (k + 1) i = if order (level a v i) (level a w i) ≠ 0 then order (level a v i) (level a w i) else upto a v w k (i + 1) := rfl
    rw [e1]; rw [e2] at h
    split
    · rename_i h0; rw [if_pos h0] at h; exact h
    · rename_i h0; rw [if_neg h0] at h; exact upto_le (by omega) h
theorem upto_lt {a : List Letter} {v w : List Int} : ∀ {n m : Nat} {i : Int}, n ≤ m → upto a v w n i ≠ 0 → upto a v w m i = upto a v w n i
  | 0, _, _, _, h => by simp [upto] at h
  | n + 1, m, i, hm, h => by
    obtain ⟨k, rfl⟩ : ∃ k, m = k + 1 := ⟨m - 1, by omega⟩
    have e1 : upto a v w (n + 1) i = if order (level a v i) (level a w i) ≠ 0 then order (level a v i) (level a w i) else upto a v w n (i + 1) := rfl
    have e2 : upto a v w (k + 1) i = if order (level a v i) (level a w i) ≠ 0 then order (level a v i) (level a w i) else upto a v w k (i + 1) := rfl
    rw [e1] at h ⊢; rw [e2]
    split
    · rfl
    · rename_i h0; rw [if_neg h0] at h; exact upto_lt (by omega) h
theorem head_mono : ∀ {x y : List Int}, order x y ≤ 0 → (∀ z ∈ x, 0 ≤ z) → (∀ z ∈ y, 0 ≤ z) → x.headD (-1) ≤ y.headD (-1)
  | [], [], _, _, _ => Int.le_refl _
  | [], y :: ys, _, _, hy => by have := hy y List.mem_cons_self; simp only [List.headD_nil, List.headD_cons]; omega
  | x :: xs, [], h, _, _ => by simp [order] at h
  | x :: xs, y :: ys, h, _, _ => by
    simp only [order] at h
    simp only [List.headD_cons]
    split at h
    · omega
    · split at h
      · omega
      · omega
theorem sect_mono {a : List Letter} (h : validA a = true) {v w : List Int} (hle : order (keyP a v 4) (keyP a w 4) ≤ 0) : sectP a v ≤ sectP a w := by
  rw [key_upto h v w (by omega)] at hle
  have h1 := upto_le (n := 1) (m := 4) (by omega) hle
  have e1 : upto a v w 1 1 = if order (level a v 1) (level a w 1) ≠ 0 then order (level a v 1) (level a w 1) else 0 := rfl
  rw [e1] at h1
  refine head_mono ?_ (fun z hz => (level_bd h v 1 z hz).1) (fun z hz => (level_bd h w 1 z hz).1)
  split at h1
  · exact h1
  · rename_i h0; simp only [ne_eq, Classical.not_not] at h0; omega
theorem sect_bd {a : List Letter} (h : validA a = true) (w : List Int) : sectP a w = -1 ∨ 0 ≤ sectP a w ∧ sectP a w < a.length ∧ (a.getD (sectP a w).toNat default).base = sectP a w := by
  unfold sectP
  cases hl : level a w 1 with
  | nil => exact .inl rfl
  | cons x r =>
    right
    have hx : x ∈ level a w 1 := by rw [hl]; exact List.mem_cons_self
    unfold level at hx
    rw [if_pos (by omega)] at hx
    obtain ⟨y, hy, rfl⟩ := List.mem_map.1 hx
    unfold lets at hy
    have h1 := isL_iff.1 (List.mem_filter.1 hy).2
    obtain ⟨_, q2, q3, q4, _⟩ := valid_get h (i := y.toNat) (by omega)
    have e : lev a 1 y = (a.getD y.toNat default).base := by unfold lev; rw [if_pos rfl]
    simp only [List.headD_cons]
    rw [e]
    exact ⟨q2, by omega, q4⟩
/-- The words in order. -/
theorem sort_le {a : List Letter} (h : validA a = true) (l : List (List Int)) {i j : Nat} (hij : i < j) (hj : j < l.length) :
    order (keyP a (l.getD ((sortN a l l.length).getD i default).toNat default) 4) (keyP a (l.getD ((sortN a l l.length).getD j default).toNat default) 4) ≤ 0 := by
  have hlen := sortN_len a l l.length
  have hp := List.pairwise_iff_getElem.1 (sortN_asc h (l := l) (Nat.le_refl _)) i j (by omega) (by omega) hij
  have hi1 := sortN_bd a l (i := l.length) (k := i) (by omega)
  have hj1 := sortN_bd a l (i := l.length) (k := j) (by omega)
  rw [List.getD_eq_getElem?_getD (l := sortN a l l.length), List.getElem?_eq_getElem (by omega), Option.getD_some] at hi1 hj1
  rw [List.getD_eq_getElem?_getD (l := sortN a l l.length), List.getElem?_eq_getElem (by omega), Option.getD_some, List.getD_eq_getElem?_getD (l := sortN a l l.length), List.getElem?_eq_getElem (by omega), Option.getD_some]
  rw [cmpS_lt, keysP_get (by omega), keysP_get (by omega)] at hp
  omega
def lastS (a : List Letter) (l : List (List Int)) (i : Nat) : Int := if i = 0 then -1 else sectP a (l.getD ((sortN a l l.length).getD (i - 1) default).toNat default)
theorem lastS_le {a : List Letter} (h : validA a = true) (l : List (List Int)) {i : Nat} (hi : i < l.length) : lastS a l i ≤ sectP a (l.getD ((sortN a l l.length).getD i default).toNat default) := by
  unfold lastS
  split
  · have := sect_bd h (l.getD ((sortN a l l.length).getD i default).toNat default); omega
  · exact sect_mono h (sort_le h l (by omega) hi)
/-! ### ranges -/
theorem prefix_count {α : Type} [Inhabited α] {p : α → Bool} : ∀ {l : List α}, (∀ i j, i < j → j < l.length → p (l.getD j default) = true → p (l.getD i default) = true) → ∀ i, i < l.length → (p (l.getD i default) = true ↔ i < l.countP p)
  | [], _, i, hi => by simp at hi
  | x :: r, h, i, hi => by
    have ih := prefix_count (l := r) (p := p) (fun i j hij hj hp => h (i + 1) (j + 1) (by omega) (by simp; omega) hp)
    by_cases hx : p x = true
    · rw [List.countP_cons_of_pos hx]
      cases i with
      | zero => simp [hx]
      | succ i =>
        have := ih i (by simpa using hi)
        rw [show (x :: r).getD (i + 1) default = r.getD i default from rfl, this]; omega
    · have hall : ∀ j, j < r.length → ¬ p (r.getD j default) = true := fun j hj hp => hx (h 0 (j + 1) (by omega) (by simp; omega) hp)
      have h0 : r.countP p = 0 := by
        rw [List.countP_eq_zero]
        intro y hy
        obtain ⟨j, hj, rfl⟩ := List.getElem_of_mem hy
        have := hall j hj
        rwa [List.getD_eq_getElem?_getD, List.getElem?_eq_getElem hj, Option.getD_some] at this
      rw [List.countP_cons_of_neg hx, h0]
      constructor
      · intro hp
        cases i with
        | zero => exact absurd hp hx
        | succ i => exact absurd hp (hall i (by simpa using hi))
      · omega
def vsorted (a : List Letter) (l : List (List Int)) (i : Nat) : List (List Int) := ((sortN a l l.length).take i).map fun x => l.getD x.toNat default
theorem vsorted_len (a : List Letter) (l : List (List Int)) {i : Nat} (hi : i ≤ l.length) : (vsorted a l i).length = i := by
  have := sortN_len a l l.length
  simp [vsorted, this]; omega
theorem vsorted_succ {a : List Letter} {l : List (List Int)} {i : Nat} (hi : i < l.length) : vsorted a l (i + 1) = vsorted a l i ++ [l.getD ((sortN a l l.length).getD i default).toNat default] := by
  have hlen := sortN_len a l l.length
  unfold vsorted
  rw [take_succ (by omega)]; simp
theorem vsorted_short {a : List Letter} {l : List (List Int)} (h : shortW l) : shortW (vsorted a l l.length) := by
  refine ⟨by rw [vsorted_len _ _ (Nat.le_refl _)]; exact h.1, fun v hv => ?_⟩
  unfold vsorted at hv
  obtain ⟨x, _, rfl⟩ := List.mem_map.1 hv
  rw [List.getD_eq_getElem?_getD]
  cases hk : l[x.toNat]? with
  | none => exact Nat.zero_le _
  | some y => exact h.2 y (List.mem_of_getElem? hk)
theorem vsorted_get {a : List Letter} {l : List (List Int)} {i : Nat} (hi : i < l.length) : (vsorted a l l.length).getD i default = l.getD ((sortN a l l.length).getD i default).toNat default := by
  have hlen := sortN_len a l l.length
  unfold vsorted
  rw [List.take_of_length_le (by omega), List.getD_eq_getElem?_getD, List.getElem?_map, List.getElem?_eq_getElem (by omega), Option.map_some, Option.getD_some]
  congr 2
  rw [List.getD_eq_getElem?_getD, List.getElem?_eq_getElem (by omega), Option.getD_some]
theorem vsorted_mono {a : List Letter} (h : validA a = true) {l : List (List Int)} {n : Nat} (hn : n ≤ 4) {i j : Nat} (hij : i < j) (hj : j < l.length) : cmpK a n ((vsorted a l l.length).getD i default) ((vsorted a l l.length).getD j default) ≤ 0 := by
  unfold cmpK
  rw [vsorted_get (by omega), vsorted_get (by omega), key_upto h _ _ hn]
  have := sort_le h l hij hj
  rw [key_upto h _ _ (by omega)] at this
  exact upto_le hn this
theorem range_spec {a : List Letter} (h : validA a = true) {l : List (List Int)} {n : Nat} (hn : n ≤ 4) (x : List Int) : ∀ i, i < l.length →
    (cmpK a n ((vsorted a l l.length).getD i default) x < 0 ↔ i < lessK a x n (vsorted a l l.length)) ∧ (cmpK a n ((vsorted a l l.length).getD i default) x ≤ 0 ↔ i < lessK a x n (vsorted a l l.length) + sameK a x n (vsorted a l l.length)) := by
  have hlen := vsorted_len a l (Nat.le_refl l.length)
  have e1 : lessK a x n (vsorted a l l.length) = (vsorted a l l.length).countP fun v => decide (cmpK a n v x < 0) := by
    unfold lessK; congr 1; funext v
    have := order_bd (keyP a v n) (keyP a x n)
    congr 1; apply propext; unfold cmpK; omega
  have e2 : ∀ s : List (List Int), lessK a x n s + sameK a x n s = s.countP fun v => decide (cmpK a n v x ≤ 0) := by
    intro s
    induction s with
    | nil => rfl
    | cons v r ih =>
      have := order_bd (keyP a v n) (keyP a x n)
      unfold lessK sameK at *
      simp only [List.countP_cons]
      have hc : (if decide (cmpK a n v x = -1) = true then 1 else 0) + (if decide (cmpK a n v x = 0) = true then 1 else 0) = (if decide (cmpK a n v x ≤ 0) = true then 1 else 0 : Nat) := by
        unfold cmpK
        rcases this with h | h | h <;> simp [h]
      omega
  intro i hi
  rw [e2, e1]
  have m1 := prefix_count (l := vsorted a l l.length) (p := fun v => decide (cmpK a n v x < 0)) (fun i j hij hj hp => by
    have h1 := vsorted_mono h (l := l) hn hij (by omega)
    simp only [decide_eq_true_eq] at hp ⊢
    unfold cmpK at *
    by_cases h0 : order (keyP a ((vsorted a l l.length).getD i default) n) (keyP a ((vsorted a l l.length).getD j default) n) = 0
    · rw [order_zero h0]; exact hp
    · exact order_trans (by omega) hp) i (by omega)
  have m2 := prefix_count (l := vsorted a l l.length) (p := fun v => decide (cmpK a n v x ≤ 0)) (fun i j hij hj hp => by
    have h1 := vsorted_mono h (l := l) hn hij (by omega)
    simp only [decide_eq_true_eq] at hp ⊢
    exact order_lt_le h1 hp) i (by omega)
  simp only [decide_eq_true_eq] at m1 m2
  exact ⟨m1, m2⟩
theorem range_has {a : List Letter} {l : List (List Int)} {n : Nat} {i : Nat} (hi : i < l.length) : 0 < sameK a (l.getD i default) n (vsorted a l l.length) := by
  unfold sameK
  rw [List.countP_pos_iff]
  have hlen := sortN_len a l l.length
  have hm : ((i : Int)) ∈ sortN a l l.length := (sortN_perm a l l.length).symm.subset (ints0_mem.2 ⟨by omega, by omega⟩)
  refine ⟨l.getD i default, ?_, by unfold cmpK; simp [order_self]⟩
  unfold vsorted
  rw [List.take_of_length_le (by omega)]
  exact List.mem_map.2 ⟨_, hm, by rw [Int.toNat_natCast]⟩
theorem range_le (a : List Letter) (x : List Int) (n : Nat) : ∀ s : List (List Int), lessK a x n s + sameK a x n s ≤ s.length
  | [] => Nat.le_refl _
  | v :: r => by
    have ih := range_le a x n r
    unfold lessK sameK at *
    simp only [List.countP_cons, List.length_cons]
    have hc : (if decide (cmpK a n v x = -1) = true then 1 else 0) + (if decide (cmpK a n v x = 0) = true then 1 else 0) ≤ (1 : Nat) := by
      by_cases h : cmpK a n v x = -1 <;> simp [h]
      split <;> omega
    omega
theorem cmp_of_less {a : List Letter} (h : validA a = true) {n : Nat} (hn : n ≤ 4) {v x : List Int} : (cmpK a n v x < 0 → order (keyC a v) (keyC a x) = -1) ∧ (0 < cmpK a n v x → order (keyC a v) (keyC a x) = 1) := by
  unfold cmpK
  rw [cmp_same, if_pos h, key_upto h v x hn]
  have hb := upto_bd a v x 4 1
  constructor
  · intro hl; have := upto_lt (m := 4) hn (show upto a v x n 1 ≠ 0 by omega); omega
  · intro hl; have := upto_lt (m := 4) hn (show upto a v x n 1 ≠ 0 by omega); omega
def seenL (s : List Int) (n i : Nat) : List Bool := (List.range n).map fun x : Nat => decide ((x : Int) ∈ s.take i)
theorem seenL_len (s : List Int) (n i : Nat) : (seenL s n i).length = n := by simp [seenL]
theorem sort_nodup (a : List Letter) (l : List (List Int)) : (sortN a l l.length).Nodup := by
  refine (sortN_perm a l l.length).nodup_iff.2 ?_
  unfold ints0
  rw [List.nodup_iff_pairwise_ne, List.pairwise_map]
  exact (List.nodup_iff_pairwise_ne.1 List.nodup_range).imp fun h => by omega
theorem seen_not {a : List Letter} {l : List (List Int)} {i : Nat} (hi : i < l.length) : (seenL (sortN a l l.length) l.length i).getD ((sortN a l l.length).getD i default).toNat default = false := by
  have hlen := sortN_len a l l.length
  have hb := sortN_bd a l (i := l.length) (k := i) hi
  unfold seenL
  rw [List.getD_eq_getElem?_getD (l := List.map _ _), List.getElem?_map, List.getElem?_range (by omega), Option.map_some, Option.getD_some, decide_eq_false_iff_not, show (((sortN a l l.length).getD i default).toNat : Int) = (sortN a l l.length).getD i default by omega]
  intro hm
  obtain ⟨j, hj, he⟩ := List.mem_take_iff_getElem.1 hm
  rw [List.getD_eq_getElem?_getD, List.getElem?_eq_getElem (by omega), Option.getD_some] at he
  have := (List.nodup_iff_pairwise_ne.1 (sort_nodup a l))
  exact List.pairwise_iff_getElem.1 this j i (by omega) (by omega) (by omega) he
theorem seen_set {s : List Int} {n i : Nat} (hi : i < s.length) (hb : 0 ≤ s.getD i default ∧ s.getD i default < n) : ((seenL s n i).map bool).set (s.getD i default).toNat (bool true) = (seenL s n (i + 1)).map bool := by
  rw [← List.map_set]
  congr 1
  apply List.ext_getElem?
  intro j
  unfold seenL
  rw [List.getElem?_set]
  by_cases hj : j < n
  · rw [List.getElem?_map, List.getElem?_map, List.getElem?_range hj, Option.map_some, Option.map_some, take_succ hi]
    simp only [List.length_map, List.length_range, List.mem_append, List.mem_singleton]
    by_cases he : (s.getD i default).toNat = j
    · rw [if_pos he, if_pos (by omega)]
      have : (j : Int) = s.getD i default := by omega
      rw [decide_eq_true (.inr this)]
    · rw [if_neg he]
      have : ¬ (j : Int) = s.getD i default := by omega
      simp only [or_iff_left this]
  · rw [List.getElem?_eq_none (by simp; omega)]
    have h2 : (List.map (fun x : Nat => decide ((x : Int) ∈ s.take (i + 1))) (List.range n))[j]? = none := List.getElem?_eq_none (by simp; omega)
    rw [h2]
    split
    · split
      · rename_i h3; simp at h3; omega
      · rfl
    · rfl
theorem seen_new (s : List Int) (n : Nat) : List.replicate n false = seenL s n 0 := by
  unfold seenL
  apply List.ext_getElem?
  intro j
  rw [List.getElem?_map]
  by_cases hj : j < n
  · rw [List.getElem?_replicate, if_pos hj, List.getElem?_range hj]; simp
  · rw [List.getElem?_replicate, if_neg hj, List.getElem?_eq_none (by simpa using hj)]; rfl
end Go.Wb
