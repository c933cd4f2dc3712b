/-
  Plain functions: a weight of expressions that normal forms do not make greater; shaped expressions have little weight.
-/
import Derived.Test.YtgdehkimfmfofaaGreatJ22
import Derived.Test.YtgdehkimfmfofaaGreatJ23
set_option linter.unusedVariables false
set_option linter.unusedSimpArgs false
namespace Go.Wb
set_option linter.unusedVariables false
set_option linter.unusedSimpArgs false
open Go.Am Go.Wc
mutual
def wtR : Rx → Nat
  | .mk k _ l => if k = 3 ∨ k = 4 then wtS l else if k = 5 then 1 + wtS l else if k = 2 then 2 else 1
def wtS : List Rx → Nat
  | [] => 0
  | x :: l => wtR x + wtS l
end
theorem wtR_eq (r : Rx) : wtR r = if r.kind = 3 ∨ r.kind = 4 then wtS r.kids else if r.kind = 5 then 1 + wtS r.kids else if r.kind = 2 then 2 else 1 := by
  cases r with | mk k s l => rw [wtR]; rfl
theorem wtR_34 {r : Rx} (h : r.kind = 3 ∨ r.kind = 4) : wtR r = wtS r.kids := by rw [wtR_eq, if_pos h]
theorem wtR_5 {r : Rx} (h : r.kind = 5) : wtR r = 1 + wtS r.kids := by rw [wtR_eq, if_neg (by omega), if_pos h]
theorem wtR_2 {r : Rx} (h : r.kind = 2) : wtR r = 2 := by rw [wtR_eq, if_neg (by omega), if_neg (by omega), if_pos h]
theorem wtR_x {r : Rx} (h : r.kind = 0 ∨ r.kind = 1) : wtR r = 1 := by rw [wtR_eq, if_neg (by omega), if_neg (by omega), if_neg (by omega)]
theorem wtS_nil : wtS [] = 0 := by rw [wtS]
theorem wtS_cons (x : Rx) (l : List Rx) : wtS (x :: l) = wtR x + wtS l := by rw [wtS]
theorem wtS_one (x : Rx) : wtS [x] = wtR x := by rw [wtS, wtS]; rfl
theorem wtS_app : ∀ l m : List Rx, wtS (l ++ m) = wtS l + wtS m
  | [], m => by rw [List.nil_append, wtS_nil, Nat.zero_add]
  | x :: l, m => by rw [List.cons_append, wtS_cons, wtS_cons, wtS_app l m]; omega
theorem wtS_mem {l : List Rx} {x : Rx} (h : x ∈ l) : wtR x ≤ wtS l := by
  induction l with
  | nil => cases h
  | cons y l ih =>
    rw [wtS_cons]
    rcases List.mem_cons.1 h with rfl | h
    · omega
    · have := ih h; omega
theorem wtS_sub {l m : List Rx} (h : l.Sublist m) : wtS l ≤ wtS m := by
  induction h with
  | slnil => exact Nat.le_refl _
  | cons x _ ih => rw [wtS_cons]; omega
  | cons_cons x _ ih => rw [wtS_cons, wtS_cons]; omega
theorem wtS_perm {l m : List Rx} (h : l.Perm m) : wtS l = wtS m := by
  induction h with
  | nil => rfl
  | cons x _ ih => rw [wtS_cons, wtS_cons, ih]
  | swap x y l => rw [wtS_cons, wtS_cons, wtS_cons, wtS_cons]; omega
  | trans _ _ h1 h2 => omega
theorem wtS_ge {n : Nat} : ∀ {l : List Rx}, (∀ x ∈ l, n ≤ wtR x) → n * l.length ≤ wtS l
  | [], _ => by rw [wtS_nil]; exact Nat.le_refl _
  | x :: l, h => by
    have h1 := wtS_ge (l := l) fun y hy => h y (List.mem_cons_of_mem _ hy)
    have h2 := h x List.mem_cons_self
    rw [wtS_cons, List.length_cons, Nat.mul_add]; omega
theorem wt_nf {x : Rx} (h : Nf x) : 1 ≤ wtR x ∧ (2 ≤ x.kind → 2 ≤ wtR x) := by
  induction h with
  | none => rw [wtR_x (.inl rfl)]; exact ⟨Nat.le_refl _, fun h => absurd h (by decide)⟩
  | empty => rw [wtR_x (.inr rfl)]; exact ⟨Nat.le_refl _, fun h => absurd h (by decide)⟩
  | set h => rw [wtR_2 rfl]; exact ⟨by decide, fun _ => Nat.le_refl _⟩
  | @seq l h2 hn hk ih =>
    rw [wtR_34 (.inl rfl)]
    show 1 ≤ wtS l ∧ (_ → 2 ≤ wtS l)
    have := wtS_ge (n := 1) fun x hx => (ih x hx).1
    exact ⟨by omega, fun _ => by omega⟩
  | @alt l h2 hn hk h4 h5 h6 ih =>
    rw [wtR_34 (.inr rfl)]
    show 1 ≤ wtS l ∧ (_ → 2 ≤ wtS l)
    have := wtS_ge (n := 1) fun x hx => (ih x hx).1
    exact ⟨by omega, fun _ => by omega⟩
  | @star y hn hk h4 ih =>
    rw [wtR_5 rfl]
    show 1 ≤ 1 + wtS [y] ∧ (_ → 2 ≤ 1 + wtS [y])
    rw [wtS_one]
    have := ih.1
    exact ⟨by omega, fun _ => by omega⟩
theorem wt_list {l : List Rx} (hn : ∀ x ∈ l, Nf x) (h : l ≠ []) : 1 ≤ wtS l := by
  match l, h with
  | x :: l, _ => have := (wt_nf (hn x List.mem_cons_self)).1; rw [wtS_cons]; omega
theorem wt_seqF (x : Rx) : wtS (seqF x) ≤ wtR x := by
  by_cases h3 : x.kind = 3
  · rw [seqF_3 h3, wtR_34 (.inl h3)]; exact Nat.le_refl _
  · by_cases h1 : x.kind = 1
    · rw [seqF_1 h1, wtS_nil]; exact Nat.zero_le _
    · rw [seqF_x h3 h1, wtS_one]; exact Nat.le_refl _
theorem wt_seqL : ∀ l : List Rx, wtS (seqL l) ≤ wtS l
  | [] => Nat.le_refl _
  | x :: l => by
    have := wt_seqL l
    have := wt_seqF x
    have e : seqL (x :: l) = seqF x ++ seqL l := rfl
    rw [e, wtS_app, wtS_cons]; omega
theorem wt_seqN {l : List Rx} (hn : ∀ x ∈ l, Nf x) (h : l ≠ []) : wtR (seqN l) ≤ wtS l := by
  have h1 := wt_list hn h
  have h2 := wt_seqL l
  refine seqN_cases (fun r => wtR r ≤ wtS l) (by rw [wtR_x (.inl rfl)]; exact h1) fun _ => ?_
  unfold seqE
  split
  · rw [wtR_x (.inr rfl)]; exact h1
  · split
    · have := wtS_mem (kid_mem (l := seqL l) (i := 0) (by omega)); omega
    · rw [wtR_34 (.inl rfl)]; exact h2
theorem wt_altL : ∀ l : List Rx, wtS (altL l) ≤ wtS l
  | [] => Nat.le_refl _
  | x :: l => by
    have := wt_altL l
    have e : altL (x :: l) = altF x ++ altL l := rfl
    have h : wtS (altF x) ≤ wtR x := by
      by_cases h4 : x.kind = 4
      · rw [altF_4 h4, wtR_34 (.inr h4)]; exact Nat.le_refl _
      · rw [altF_x h4, wtS_one]; exact Nat.le_refl _
    rw [e, wtS_app, wtS_cons]; omega
theorem wt_split (p : Rx → Bool) : ∀ l : List Rx, wtS (l.filter p) + wtS (l.filter fun x => !p x) = wtS l
  | [] => rfl
  | x :: l => by
    have := wt_split p l
    rw [wtS_cons]
    cases h : p x with
    | true => rw [List.filter_cons_of_pos h, List.filter_cons_of_neg (by simp [h]), wtS_cons]; omega
    | false => rw [List.filter_cons_of_neg (by simp [h]), List.filter_cons_of_pos (by simp [h]), wtS_cons]; omega
theorem wt_altM (l : List Rx) : wtS (altM (altS l) (altK l)) ≤ wtS (altL l) := by
  have h1 := wt_split (fun x => !decide (x.kind = 0 ∨ x.kind = 2)) (altL l)
  rw [show (altL l).filter (fun x => !decide (x.kind = 0 ∨ x.kind = 2)) = altK l from (putKs_eq _).symm] at h1
  by_cases h : 0 < (altS l).length
  · obtain ⟨z, hz⟩ := List.length_pos_iff_exists_mem.1 h
    obtain ⟨x, hx, hk, _⟩ := altS_mem.1 hz
    have h2 : wtR x ≤ wtS ((altL l).filter fun x => !!decide (x.kind = 0 ∨ x.kind = 2)) := wtS_mem (List.mem_filter.2 ⟨hx, by simp [hk]⟩)
    rw [wtR_2 hk] at h2
    rw [altM_t h, wtS_app, wtS_one, wtR_2 rfl]; omega
  · rw [altM_f h]; omega
theorem wt_altD (l : List Rx) : wtS (altD l) ≤ wtS l := by
  have h1 := wtS_sub (cptN_sub (eq := eqR) (l := sortR (altM (altS l) (altK l))) _ (Nat.le_refl _))
  rw [List.take_length] at h1
  have h2 : wtS (sortR (altM (altS l) (altK l))) = wtS (altM (altS l) (altK l)) := wtS_perm (isort_perm _)
  have h3 := wt_altM l
  have h4 := wt_altL l
  show wtS (cptN _ _ _) ≤ _
  omega
theorem altC_sub (k : List Rx) : (altC k).Sublist k := by
  unfold altC
  split
  · exact List.drop_sublist _ _
  · exact List.Sublist.refl _
theorem wt_altN {l : List Rx} (hn : ∀ x ∈ l, Nf x) (h : l ≠ []) : wtR (altN l) ≤ wtS l := by
  have h1 := wt_list hn h
  have h2 := wt_altD l
  have h3 := wtS_sub (altC_sub (altD l))
  unfold altN altE
  split
  · rw [wtR_x (.inl rfl)]; exact h1
  · split
    · have := wtS_mem (kid_mem (l := altC (altD l)) (i := 0) (by omega)); omega
    · rw [wtR_34 (.inr rfl)]; show wtS (altC (altD l)) ≤ _; omega
theorem wt_starB (x : Rx) : wtR (starB x) ≤ wtR x := by
  unfold starB
  split
  · next h =>
    rw [wtR_34 (r := x) (.inr h.1)]
    split
    · exact wtS_mem (kid_mem (by omega))
    · rw [wtR_34 (by exact .inr h.1)]; exact wtS_sub (List.drop_sublist 1 x.kids)
  · exact Nat.le_refl _
theorem wt_starN {x : Rx} (h : Nf x) : wtR (starN x) ≤ 1 + wtR x := by
  have h1 := (wt_nf h).1
  unfold starN
  split
  · rw [wtR_x (.inr rfl)]; omega
  · split
    · omega
    · have := wt_starB x
      rw [wtR_5 rfl]
      show 1 + wtS [starB x] ≤ _
      rw [wtS_one]; omega
inductive Shp : Rx → Prop
  | leaf {k : Int} {s : List Int} : k = 0 ∨ k = 1 ∨ k = 2 → Shp (.mk k s [])
  | star {x : Rx} : Shp x → Shp (.mk 5 [] [x])
  | pair {k : Int} {x y : Rx} : k = 3 ∨ k = 4 → Shp x → Shp y → Shp (.mk k [] [x, y])
theorem wt_build {t : Bool} {r : Rx} (h : Shp r) (hv : validR r = true) : wtR (buildR t r) ≤ wtR r := by
  induction h with
  | @leaf k s hk =>
    rw [buildR_x (by show k ≠ 3; omega) (by show k ≠ 4; omega) (by show k ≠ 5; omega)]
    show wtR (.mk k s []) ≤ _
    exact Nat.le_refl _
  | @star x hx ih =>
    have h1 := valid_kids hv x (by show x ∈ [x]; simp)
    have h2 := ih h1
    have h3 := wt_starN (build_nf t x h1)
    rw [buildR_5 rfl, wtR_5 (r := .mk 5 [] [x]) rfl]
    show wtR (starN (buildR t x)) ≤ 1 + wtS [x]
    rw [wtS_one]; omega
  | @pair k x y hk hx hy ihx ihy =>
    have h1 := valid_kids hv x (by show x ∈ [x, y]; simp)
    have h2 := valid_kids hv y (by show y ∈ [x, y]; simp)
    have h3 := ihx h1
    have h4 := ihy h2
    have hn : ∀ z ∈ [buildR t x, buildR t y], Nf z := fun z hz => by
      rcases List.mem_cons.1 hz with rfl | hz
      · exact build_nf t x h1
      · rw [List.mem_singleton.1 hz]; exact build_nf t y h2
    rw [wtR_34 (r := .mk k [] [x, y]) hk]
    show _ ≤ wtS [x, y]
    rw [wtS_cons, wtS_one]
    rcases hk with rfl | rfl
    · cases t with
      | false =>
        rw [buildR_3f rfl]
        have := wt_seqN hn (by simp)
        rw [wtS_cons, wtS_one] at this
        exact Nat.le_trans this (by omega)
      | true =>
        rw [buildR_3t rfl]
        have := wt_seqN (l := [buildR true x, buildR true y].reverse) (fun z hz => hn z (List.mem_reverse.1 hz)) (by simp)
        rw [wtS_perm (List.reverse_perm _), wtS_cons, wtS_one] at this
        exact Nat.le_trans this (by omega)
    · rw [buildR_4 rfl]
      have := wt_altN hn (by simp)
      rw [wtS_cons, wtS_one] at this
      exact Nat.le_trans this (by omega)
theorem mem_set_or {l : List Rx} {k : Nat} {v x : Rx} (h : x ∈ l.set k v) : x ∈ l ∨ x = v := (List.mem_or_eq_of_mem_set h)
theorem shpF_shp {most n : Int} {st : List Rx} (h : ∀ x ∈ st, Shp x) : ∀ x ∈ shpF most n st, Shp x := by
  have happ : ∀ y : Rx, Shp y → ∀ x ∈ st ++ [y], Shp x := fun y hy x hx => by
    rcases List.mem_append.1 hx with hx | hx
    · exact h x hx
    · rw [List.mem_singleton.1 hx]; exact hy
  have hset : ∀ {k : Nat} {y : Rx}, Shp y → ∀ x ∈ st.set k y, Shp x := fun {k y} hy x hx => by
    rcases mem_set_or hx with hx | hx
    · exact h x hx
    · rw [hx]; exact hy
  unfold shpF
  split
  · exact happ _ (.leaf (.inr (.inr rfl)))
  · split
    · refine happ _ ?_
      split <;> exact .leaf (.inr (.inr rfl))
    · split
      · next hc => exact hset (.star (h _ (kid_mem (by omega))))
      · split
        · next hc => exact fun x hx => hset (.pair (.inl rfl) (h _ (kid_mem (by omega))) (h _ (kid_mem (by omega)))) x (List.mem_of_mem_take hx)
        · split
          · next hc => exact fun x hx => hset (.pair (.inr rfl) (h _ (kid_mem (by omega))) (h _ (kid_mem (by omega)))) x (List.mem_of_mem_take hx)
          · split
            · next hc => exact hset (.pair (.inr rfl) (.leaf (.inr (.inl rfl))) (h _ (kid_mem (by omega))))
            · split
              · refine happ _ (.leaf ?_)
                have : n / 8 % 8 = n / 8 % 8 := rfl
                unfold minI; split <;> omega
              · exact h
theorem wtS_set : ∀ {l : List Rx} {k : Nat} {y : Rx}, k < l.length → wtS (l.set k y) + wtR (l.getD k default) = wtS l + wtR y
  | x :: l, 0, y, _ => by
    show wtS (y :: l) + wtR x = _
    rw [wtS_cons, wtS_cons]; omega
  | x :: l, k + 1, y, h => by
    have := wtS_set (l := l) (k := k) (y := y) (by simpa using h)
    show wtS (x :: l.set k y) + wtR (l.getD k default) = _
    rw [wtS_cons, wtS_cons]; omega
theorem wtS_pop {l : List Rx} {k : Nat} (h : k + 1 = l.length) : wtS (l.take k) + wtR (l.getD k default) = wtS l := by
  have h1 : wtS (l.take k) + wtS (l.drop k) = wtS l := by rw [← wtS_app, List.take_append_drop]
  rw [drop_cons (by omega), List.drop_of_length_le (by omega), wtS_one] at h1
  exact h1
theorem shpF_wt (most n : Int) (st : List Rx) : wtS (shpF most n st) + st.length ≤ wtS st + (shpF most n st).length + 1 := by
  have happ : ∀ y : Rx, wtR y ≤ 2 → wtS (st ++ [y]) + st.length ≤ wtS st + (st ++ [y]).length + 1 := fun y hy => by
    rw [wtS_app, wtS_one, List.length_append, List.length_singleton]; omega
  have hset1 : ∀ {k : Nat} {y : Rx}, k < st.length → wtR y ≤ wtR (st.getD k default) + 1 → wtS (st.set k y) + st.length ≤ wtS st + (st.set k y).length + 1 := fun {k y} hk hy => by
    have := wtS_set (y := y) hk
    rw [List.length_set]; omega
  have hpop : ∀ (c : Int), c = 3 ∨ c = 4 → 1 < st.length → wtS ((st.set (st.length - 2) (.mk c [] [st.getD (st.length - 2) default, st.getD (st.length - 1) default])).take (st.length - 1)) + st.length ≤
      wtS st + ((st.set (st.length - 2) (.mk c [] [st.getD (st.length - 2) default, st.getD (st.length - 1) default])).take (st.length - 1)).length + 1 := fun c hc h => by
    have h1 := wtS_set (l := st) (k := st.length - 2) (y := .mk c [] [st.getD (st.length - 2) default, st.getD (st.length - 1) default]) (by omega)
    rw [wtR_34 (r := .mk c [] [st.getD (st.length - 2) default, st.getD (st.length - 1) default]) hc] at h1
    have h3 : wtS (Rx.mk c [] [st.getD (st.length - 2) default, st.getD (st.length - 1) default]).kids = wtR (st.getD (st.length - 2) default) + wtR (st.getD (st.length - 1) default) := by
      show wtS [_, _] = _
      rw [wtS_cons, wtS_one]
    have h2 := wtS_pop (l := st.set (st.length - 2) (.mk c [] [st.getD (st.length - 2) default, st.getD (st.length - 1) default])) (k := st.length - 1) (by rw [List.length_set]; omega)
    rw [getD_set_ne' (by omega)] at h2
    rw [List.length_take, List.length_set]
    omega
  unfold shpF
  split
  · exact happ _ (by rw [wtR_2 rfl]; exact Nat.le_refl _)
  · split
    · refine happ _ ?_
      split
      · rw [wtR_2 rfl]; exact Nat.le_refl _
      · rw [wtR_2 rfl]; exact Nat.le_refl _
    · split
      · next hc => exact hset1 (by omega) (by rw [wtR_5 rfl]; show 1 + wtS [_] ≤ _; rw [wtS_one]; omega)
      · split
        · next hc => exact hpop 3 (.inl rfl) hc.2
        · split
          · next hc => exact hpop 4 (.inr rfl) hc.2
          · split
            · next hc => exact hset1 (by omega) (by rw [wtR_34 (.inr rfl)]; show wtS [emptyRx, _] ≤ _; rw [wtS_cons, wtS_one, wtR_x (.inr rfl)]; omega)
            · split
              · refine happ _ ?_
                rw [wtR_x]
                · decide
                · show minI _ _ = 0 ∨ minI _ _ = 1
                  unfold minI; split <;> omega
              · omega
theorem shpN_wt (most : Int) (l : List Int) : ∀ i, (∀ x ∈ shpN most l i, Shp x) ∧ wtS (shpN most l i) ≤ (shpN most l i).length + i
  | 0 => ⟨(fun x hx => by cases hx), Nat.le_refl _⟩
  | i + 1 => by
    obtain ⟨h1, h2⟩ := shpN_wt most l i
    have h3 := shpF_wt most (around (l.getD i default) 1048576) (shpN most l i)
    rw [shpN]
    exact ⟨shpF_shp h1, by omega⟩
def Top (n : Nat) (t : Rx) : Prop := t.kind ≠ 0 → wtS (seqF t) ≤ (seqF t).length + n
theorem wt_fac {x : Rx} (h : Nf x) : wtS (seqF x) + 1 ≤ wtR x + (seqF x).length := by
  by_cases h3 : x.kind = 3
  · have := (h.k3 h3).2.1
    rw [seqF_3 h3, wtR_34 (.inl h3)]; omega
  · by_cases h1 : x.kind = 1
    · rw [seqF_1 h1, wtS_nil, wtR_x (.inr h1)]; exact Nat.le_refl _
    · rw [seqF_x h3 h1, wtS_one]; exact Nat.le_refl _
theorem wt_facs : ∀ {l : List Rx}, (∀ x ∈ l, Nf x) → wtS (seqL l) + l.length ≤ wtS l + (seqL l).length
  | [], _ => Nat.le_refl _
  | x :: l, h => by
    have h1 := wt_facs (l := l) fun y hy => h y (List.mem_cons_of_mem _ hy)
    have h2 := wt_fac (h x List.mem_cons_self)
    have e : seqL (x :: l) = seqF x ++ seqL l := rfl
    rw [e, wtS_app, wtS_cons, List.length_append, List.length_cons]; omega
theorem wt_builds {t : Bool} : ∀ {l : List Rx}, (∀ x ∈ l, Shp x) → (∀ x ∈ l, validR x = true) → wtS (l.map (buildR t)) ≤ wtS l
  | [], _, _ => Nat.le_refl _
  | x :: l, h, hv => by
    have h1 := wt_builds (t := t) (l := l) (fun y hy => h y (List.mem_cons_of_mem _ hy)) fun y hy => hv y (List.mem_cons_of_mem _ hy)
    have h2 := wt_build (t := t) (h x List.mem_cons_self) (hv x List.mem_cons_self)
    rw [List.map_cons, wtS_cons, wtS_cons]; omega
theorem shaped_top {most : Int} (t : Bool) (l : List Int) (hm : 0 < most ∧ most ≤ 64) : Top 16 (buildR t (shapedP l most)) := by
  obtain ⟨h1, h2⟩ := shpN_wt most l (min l.length 16)
  have h3 : min l.length 16 ≤ 16 := Nat.min_le_right _ _
  have hv := (shpN_good (l := l) hm (min l.length 16)).1
  intro h0
  unfold shapedP shpE at h0 ⊢
  by_cases q : (shpN most l (min l.length 16)).length = 1
  · rw [if_pos q] at h0 ⊢
    have hm : (shpN most l (min l.length 16)).getD 0 default ∈ shpN most l (min l.length 16) := kid_mem (by omega)
    have h4 := wt_build (t := t) (h1 _ hm) (hv _ hm)
    have h5 := wt_fac (build_nf t _ (hv _ hm))
    have h6 := wtS_mem hm
    omega
  · rw [if_neg q] at h0 ⊢
    have hn : ∀ x ∈ (shpN most l (min l.length 16)).map (buildR t), Nf x := fun x hx => by
      obtain ⟨y, hy, rfl⟩ := List.mem_map.1 hx
      exact build_nf t y (hv y hy)
    have h4 := wt_builds (t := t) h1 hv
    cases t with
    | false =>
      rw [buildR_3f rfl] at h0 ⊢
      have h5 := wt_facs hn
      have e' : seqF (seqN (List.map (buildR false) (Rx.mk 3 [] (shpN most l (min l.length 16))).kids)) = seqL ((shpN most l (min l.length 16)).map (buildR false)) := seqF_seqN hn h0
      rw [e']
      rw [List.length_map] at h5
      exact Nat.le_trans (m := (seqL ((shpN most l (min l.length 16)).map (buildR false))).length + min l.length 16) (by omega) (by exact Nat.add_le_add_left h3 _)
    | true =>
      rw [buildR_3t rfl] at h0 ⊢
      have hn' : ∀ x ∈ ((shpN most l (min l.length 16)).map (buildR true)).reverse, Nf x := fun x hx => hn x (List.mem_reverse.1 hx)
      have h5 := wt_facs hn'
      have e : seqF (seqN ((shpN most l (min l.length 16)).map (buildR true)).reverse) = seqL ((shpN most l (min l.length 16)).map (buildR true)).reverse := seqF_seqN hn' h0
      rw [wtS_perm (List.reverse_perm _), List.length_reverse, List.length_map] at h5
      have e' : seqF (seqN (List.map (buildR true) (Rx.mk 3 [] (shpN most l (min l.length 16))).kids).reverse) = seqL ((shpN most l (min l.length 16)).map (buildR true)).reverse := e
      rw [e']
      exact Nat.le_trans (m := (seqL ((shpN most l (min l.length 16)).map (buildR true)).reverse).length + min l.length 16) (by omega) (by exact Nat.add_le_add_left h3 _)
theorem puts_size : ∀ (l : List Rx) (s : List Int), (l.foldl putS s).length + Rx.sizes (l.filter fun x => !decide (x.kind = 0 ∨ x.kind = 2)) + (l.filter fun x => decide (x.kind = 2)).length ≤ s.length + Rx.sizes l
  | [], s => by simp [Rx.sizes]
  | x :: l, s => by
    have h := puts_size l (putS s x)
    have h1 := syms_len x
    rw [List.foldl_cons, Rx.sizes]
    by_cases h2 : x.kind = 2
    · rw [putS_2 h2, List.length_append] at h
      rw [List.filter_cons_of_neg (by simp [h2]), List.filter_cons_of_pos (by simp [h2]), List.length_cons, putS_2 h2]; omega
    · rw [putS_x h2] at h
      rw [List.filter_cons_of_neg (p := fun x : Rx => decide (x.kind = 2)) (by simp [h2]), putS_x h2]
      by_cases h0 : x.kind = 0
      · rw [List.filter_cons_of_neg (by simp [h0])]; omega
      · rw [List.filter_cons_of_pos (by simp [h0, h2]), Rx.sizes]; omega
theorem size_altM (l : List Rx) : Rx.sizes (altM (altS l) (altK l)) ≤ Rx.sizes (altL l) := by
  have h1 := puts_size (altL l) []
  rw [show (altL l).filter (fun x => !decide (x.kind = 0 ∨ x.kind = 2)) = altK l from (putKs_eq _).symm, show (altL l).foldl putS [] = altS l from rfl, List.length_nil] at h1
  by_cases h : 0 < (altS l).length
  · obtain ⟨z, hz⟩ := List.length_pos_iff_exists_mem.1 h
    obtain ⟨x, hx, hk, _⟩ := altS_mem.1 hz
    have h2 : 0 < ((altL l).filter fun x => decide (x.kind = 2)).length := List.length_pos_iff_exists_mem.2 ⟨x, List.mem_filter.2 ⟨hx, by simp [hk]⟩⟩
    have h3 := cpt_len (eq := eqI) (l := sortI (altS l))
    rw [sortI_len] at h3
    rw [altM_t h, sizes_append, Rx.sizes, Rx.sizes, Rx.size, Rx.sizes]; omega
  · rw [altM_f h]; omega
theorem size_altN' (l : List Rx) : (altN l).size ≤ 1 + Rx.sizes l := by
  have h1 := sizes_sublist (cptN_sub (eq := eqR) (l := sortR (altM (altS l) (altK l))) _ (Nat.le_refl _))
  rw [List.take_length] at h1
  have h2 : Rx.sizes (sortR (altM (altS l) (altK l))) = Rx.sizes (altM (altS l) (altK l)) := sizes_perm (isort_perm _)
  have h3 := size_altM l
  have h4 := sizes_altL l
  have h5 := sizes_altC (altD l)
  have h6 : Rx.sizes (altD l) = Rx.sizes (cptN eqR (sortR (altM (altS l) (altK l))) (sortR (altM (altS l) (altK l))).length) := rfl
  unfold altN altE
  split
  · rw [size_mk]; simp only [List.length_nil, Rx.sizes]; omega
  · split
    · have := size_mem (kid_mem (l := altC (altD l)) (i := 0) (by omega)); omega
    · rw [size_mk]; simp only [List.length_nil]; omega
theorem sizes_map_le1 {f : Rx → Rx} : ∀ {l : List Rx}, (∀ x ∈ l, (f x).size ≤ x.size) → Rx.sizes (l.map f) ≤ Rx.sizes l
  | [], _ => Nat.le_refl _
  | x :: l, h => by
    have h1 := sizes_map_le1 (l := l) fun y hy => h y (List.mem_cons_of_mem _ hy)
    have h2 := h x List.mem_cons_self
    rw [List.map_cons, Rx.sizes, Rx.sizes]; omega
theorem size_build' (t : Bool) (r : Rx) (hv : validR r = true) : (buildR t r).size ≤ r.size := by
  revert hv
  refine rx_ind (P := fun r => validR r = true → (buildR t r).size ≤ r.size) (fun r ih hv => ?_) r
  have hm := sizes_map_le1 (l := r.kids) fun x hx => ih x hx (valid_kids hv x hx)
  have e := size_eq r
  by_cases h3 : r.kind = 3
  · cases t with
    | false => rw [buildR_3f h3]; have := size_seqN (r.kids.map (buildR false)); omega
    | true => rw [buildR_3t h3]; have := size_seqN (r.kids.map (buildR true)).reverse; rw [sizes_rev] at this; omega
  · by_cases h4 : r.kind = 4
    · rw [buildR_4 h4]; have := size_altN' (r.kids.map (buildR t)); omega
    · by_cases h5 : r.kind = 5
      · rw [buildR_5 h5]
        have h6 := (valid_5 hv h5).2
        have := size_starN ((r.kids.map (buildR t)).getD 0 default)
        have := size_mem (kid_mem (l := r.kids.map (buildR t)) (i := 0) (by rw [List.length_map]; omega))
        omega
      · rw [buildR_x h3 h4 h5, size_mk]; simp only [Rx.sizes]; omega
end Go.Wb

