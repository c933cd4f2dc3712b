/-
  Plain functions: valid expressions made of numbers; words; symbols.
-/
import Derived.Test.YtgdehkimfmfofaaGreatJ17
import Derived.Test.YtgdehkimfmfofaaGreatJ9
set_option linter.unusedVariables false
set_option linter.unusedSimpArgs false
namespace Go.Wb
set_option linter.unusedVariables false
open Go.Am
def lbI (a : Int) (s : List Int) : Nat := s.findIdx fun x => decide (a ≤ x)
theorem lb_is {a : Int} {s : List Int} {i : Nat} (hi : i ≤ s.length) (h1 : ∀ k, k < i → s.getD k default < a) (h2 : i < s.length → a ≤ s.getD i default) : i = lbI a s := by
  rcases Nat.lt_or_ge i s.length with h | h
  · refine ((List.findIdx_eq h).2 ⟨?_, fun j hj => ?_⟩).symm
    · have := h2 h; rw [getD_el h] at this; exact decide_eq_true this
    · have := h1 j hj; rw [getD_el (by omega)] at this; exact decide_eq_false (by omega)
  · have hi' : i = s.length := by omega
    subst hi'
    refine (List.findIdx_eq_length.2 fun x hx => ?_).symm
    obtain ⟨j, hj, e⟩ := List.getElem_of_mem hx
    have := h1 j hj
    rw [getD_el hj, e] at this
    exact decide_eq_false (by omega)
theorem lb_yes {a : Int} {s : List Int} {i : Nat} (hi : i < s.length) (h : s.getD i default = a) : a ∈ s := by rw [← h, getD_el hi]; exact List.getElem_mem hi
theorem lb_no {a : Int} {s : List Int} {i : Nat} (hs : Srt leI s) (h1 : ∀ k, k < i → s.getD k default < a) (h2 : i < s.length → a ≤ s.getD i default) (h : i < s.length → s.getD i default ≠ a) : ¬ a ∈ s := by
  intro hm
  obtain ⟨j, hj, e⟩ := List.getElem_of_mem hm
  rw [← getD_el hj] at e
  rcases Nat.lt_trichotomy j i with q | q | q
  · have := h1 j q; omega
  · subst q; exact h hj e
  · have h3 := pair_getD hs q hj
    have h4 := of_decide_eq_true h3.1
    have := h2 (by omega)
    have := h3.2
    omega
mutual
def dR (a : Int) : Rx → Rx
  | .mk k s l => if k = 2 then (if a ∈ s then emptyRx else noneRx) else if k = 4 then altN (dRs a l) else if k = 3 then altN (dRq a l) else if k = 5 then seqN [(dRs a l).getD 0 default, .mk k s l] else noneRx
def dRs (a : Int) : List Rx → List Rx
  | [] => []
  | x :: l => dR a x :: dRs a l
def dRq (a : Int) : List Rx → List Rx
  | [] => []
  | x :: l => seqN [dR a x, seqN l] :: (if accR x = true then dRq a l else [])
end
theorem dRs_map (a : Int) : ∀ l : List Rx, dRs a l = l.map (dR a)
  | [] => by rw [dRs]; rfl
  | x :: l => by rw [dRs, dRs_map a l]; rfl
theorem dR_eq (a : Int) (r : Rx) : dR a r = if r.kind = 2 then (if a ∈ r.syms then emptyRx else noneRx) else if r.kind = 4 then altN (r.kids.map (dR a)) else if r.kind = 3 then altN (dRq a r.kids) else
    if r.kind = 5 then seqN [(r.kids.map (dR a)).getD 0 default, r] else noneRx := by
  cases r with | mk k s l => rw [dR, dRs_map]; rfl
theorem altN_nil : altN [] = noneRx := by
  rfl
def dL (a : Int) (r : Rx) : List Rx := if r.kind = 4 then r.kids.map (dR a) else if r.kind = 3 then dRq a r.kids else []
theorem dL_4 {a : Int} {r : Rx} (h : r.kind = 4) : dL a r = r.kids.map (dR a) := if_pos h
theorem dL_3 {a : Int} {r : Rx} (h : r.kind = 3) : dL a r = dRq a r.kids := by unfold dL; rw [if_neg (by omega), if_pos h]
theorem dL_x {a : Int} {r : Rx} (h : r.kind ≠ 4) (h3 : r.kind ≠ 3) : dL a r = [] := by unfold dL; rw [if_neg h, if_neg h3]
theorem dR_2 {a : Int} {r : Rx} (h : r.kind = 2) (hm : a ∈ r.syms) : dR a r = emptyRx := by rw [dR_eq, if_pos h, if_pos hm]
theorem dR_5 {a : Int} {r : Rx} (h : r.kind = 5) : dR a r = seqN [(r.kids.map (dR a)).getD 0 default, r] := by rw [dR_eq, if_neg (by omega), if_neg (by omega), if_neg (by omega), if_pos h]
theorem dR_5k {a : Int} {r : Rx} (h : r.kind = 5) (h0 : 0 < r.kids.length) : dR a r = seqN [dR a (r.kids.getD 0 default), r] := by rw [dR_5 h, getD_map h0]
theorem dR_x {a : Int} {r : Rx} (h5 : r.kind ≠ 5) (h2 : r.kind = 2 → ¬ a ∈ r.syms) : dR a r = altN (dL a r) := by
  rw [dR_eq]
  by_cases h : r.kind = 2
  · rw [if_pos h, if_neg (h2 h), dL_x (by omega) (by omega), altN_nil]
  · rw [if_neg h]
    by_cases h4 : r.kind = 4
    · rw [if_pos h4, dL_4 h4]
    · rw [if_neg h4]
      by_cases h3 : r.kind = 3
      · rw [if_pos h3, dL_3 h3]
      · rw [if_neg h3, if_neg h5, dL_x h4 h3, altN_nil]
def dQ (a : Int) (l : List Rx) (i : Nat) : Rx := seqN [dR a (l.getD i default), seqN (l.drop (i + 1))]
theorem dRq_drop {a : Int} {l : List Rx} {i : Nat} (h : i < l.length) : dRq a (l.drop i) = dQ a l i :: (if accR (l.getD i default) = true then dRq a (l.drop (i + 1)) else []) := by
  rw [drop_cons h, dRq]; rfl
theorem dRq_upto {a : Int} {l : List Rx} : ∀ i, i ≤ l.length → (∀ j, j < i → accR (l.getD j default) = true) → dRq a l = (List.range i).map (dQ a l) ++ dRq a (l.drop i)
  | 0, _, _ => by simp
  | i + 1, hi, h => by
    rw [dRq_upto i (by omega) fun j hj => h j (by omega), dRq_drop (by omega), if_pos (h i (by omega)), List.range_succ, List.map_append, List.append_assoc]; rfl
theorem dRq_end {a : Int} {l : List Rx} {i : Nat} (hi : i = l.length) (h : ∀ j, j < i → accR (l.getD j default) = true) : dRq a l = (List.range i).map (dQ a l) := by
  rw [dRq_upto i (by omega) h, hi, List.drop_length, dRq, List.append_nil]
theorem dRq_stop {a : Int} {l : List Rx} {i : Nat} (hi : i < l.length) (h : ∀ j, j < i → accR (l.getD j default) = true) (hn : accR (l.getD i default) = false) : dRq a l = (List.range (i + 1)).map (dQ a l) := by
  rw [dRq_upto i (by omega) h, dRq_drop hi, if_neg (by rw [hn]; decide), List.range_succ, List.map_append]; rfl
mutual
def dSz : Rx → Nat
  | .mk k s l => if k = 4 then 2 + dSzs l else if k = 3 then 2 + dSzq l else if k = 5 then 2 + dSzs l + (Rx.mk k s l).size else 2
def dSzs : List Rx → Nat
  | [] => 0
  | x :: l => dSz x + dSzs l
def dSzq : List Rx → Nat
  | [] => 0
  | x :: l => 2 + dSz x + Rx.sizes l + (if accR x = true then dSzq l else 0)
end
theorem dSz_eq (r : Rx) : dSz r = if r.kind = 4 then 2 + dSzs r.kids else if r.kind = 3 then 2 + dSzq r.kids else if r.kind = 5 then 2 + dSzs r.kids + r.size else 2 := by
  cases r with | mk k s l => rw [dSz]; rfl
theorem seqN_two (x y : Rx) : (seqN [x, y]).size ≤ 1 + x.size + y.size := by
  have := size_seqN [x, y]
  simp only [Rx.sizes] at this; omega
theorem dSz_mem {l : List Rx} {x : Rx} (h : x ∈ l) : dSz x ≤ dSzs l := by
  induction l with
  | nil => cases h
  | cons y l ih =>
    rw [dSzs]
    rcases List.mem_cons.1 h with rfl | h
    · omega
    · have := ih h; omega
theorem dSz_spec (a : Int) (r : Rx) : (dR a r).size ≤ dSz r := by
  refine rx_ind (P := fun r => (dR a r).size ≤ dSz r) (fun r ih => ?_) r
  have hs : ∀ l : List Rx, (∀ x ∈ l, (dR a x).size ≤ dSz x) → Rx.sizes (l.map (dR a)) ≤ dSzs l := by
    intro l
    induction l with
    | nil => intro _; exact Nat.le_refl _
    | cons x l ihl =>
      intro h
      have h1 := ihl fun y hy => h y (List.mem_cons_of_mem _ hy)
      have h2 := h x List.mem_cons_self
      rw [List.map_cons, Rx.sizes, dSzs]; omega
  have hq : ∀ l : List Rx, (∀ x ∈ l, (dR a x).size ≤ dSz x) → Rx.sizes (dRq a l) ≤ dSzq l := by
    intro l
    induction l with
    | nil => intro _; rw [dRq]; exact Nat.le_refl _
    | cons x l ihl =>
      intro h
      have h1 := ihl fun y hy => h y (List.mem_cons_of_mem _ hy)
      have h2 := h x List.mem_cons_self
      have h3 := seqN_two (dR a x) (seqN l)
      have h4 := size_seqN l
      rw [dRq, Rx.sizes, dSzq]
      split
      · omega
      · rw [show Rx.sizes [] = 0 from rfl]; omega
  have h1 := hs r.kids ih
  have h2 := hq r.kids ih
  rw [dR_eq, dSz_eq]
  by_cases h : r.kind = 2
  · rw [if_pos h, if_neg (show ¬ r.kind = 4 by omega), if_neg (show ¬ r.kind = 3 by omega), if_neg (show ¬ r.kind = 5 by omega)]
    split <;> rw [size_mk] <;> simp only [List.length_nil, Rx.sizes] <;> omega
  · rw [if_neg h]
    by_cases h4 : r.kind = 4
    · rw [if_pos h4, if_pos h4]; have := size_altN (r.kids.map (dR a)); omega
    · rw [if_neg h4, if_neg h4]
      by_cases h3 : r.kind = 3
      · rw [if_pos h3, if_pos h3]; have := size_altN (dRq a r.kids); omega
      · rw [if_neg h3, if_neg h3]
        by_cases h5 : r.kind = 5
        · rw [if_pos h5, if_pos h5]
          have h6 := seqN_two ((r.kids.map (dR a)).getD 0 default) r
          by_cases h0 : 0 < r.kids.length
          · have := size_mem (kid_mem (l := r.kids.map (dR a)) (i := 0) (by rw [List.length_map]; exact h0)); omega
          · rw [List.eq_nil_of_length_eq_zero (l := r.kids) (by omega)] at h6 ⊢
            have h7 : ((List.map (dR a) []).getD 0 default).size = 1 := rfl
            omega
        · rw [if_neg h5, if_neg h5, size_mk]; simp only [List.length_nil, Rx.sizes]; omega
theorem dSzs_sizes (a : Int) : ∀ l : List Rx, Rx.sizes (l.map (dR a)) ≤ dSzs l
  | [] => Nat.le_refl _
  | x :: l => by
    have h1 := dSzs_sizes a l
    have h2 := dSz_spec a x
    rw [List.map_cons, Rx.sizes, dSzs]; omega
theorem dSzq_sizes (a : Int) : ∀ l : List Rx, Rx.sizes (dRq a l) ≤ dSzq l
  | [] => by rw [dRq]; exact Nat.le_refl _
  | x :: l => by
    have h1 := dSzq_sizes a l
    have h2 := dSz_spec a x
    have h3 := seqN_two (dR a x) (seqN l)
    have h4 := size_seqN l
    rw [dRq, Rx.sizes, dSzq]
    split
    · omega
    · rw [show Rx.sizes [] = 0 from rfl]; omega
theorem dSzq_get : ∀ {l : List Rx} {i : Nat}, i < l.length → (∀ j, j < i → accR (l.getD j default) = true) → 2 + dSz (l.getD i default) + Rx.sizes (l.drop (i + 1)) ≤ dSzq l
  | x :: l, 0, _, _ => by
    rw [dSzq]
    show 2 + dSz x + Rx.sizes l ≤ _
    omega
  | x :: l, i + 1, h, ha => by
    have h1 := dSzq_get (l := l) (i := i) (by simpa using h) fun j hj => ha (j + 1) (by omega)
    have h2 : accR x = true := ha 0 (by omega)
    rw [dSzq, if_pos h2]
    show 2 + dSz (l.getD i default) + Rx.sizes (l.drop (i + 1)) ≤ _
    omega
theorem dSz_4 {r : Rx} (h : r.kind = 4) {i : Nat} (hi : i < r.kids.length) : dSz (r.kids.getD i default) ≤ dSz r ∧ dSzs r.kids ≤ dSz r := by
  have := dSz_mem (kid_mem hi)
  rw [dSz_eq r, if_pos h]; omega
theorem dSz_4s {r : Rx} (h : r.kind = 4) : dSzs r.kids ≤ dSz r := by rw [dSz_eq r, if_pos h]; omega
theorem dSz_3s {r : Rx} (h : r.kind = 3) : dSzq r.kids ≤ dSz r := by rw [dSz_eq r, if_neg (by omega), if_pos h]; omega
theorem dSz_3 {r : Rx} (h : r.kind = 3) {i : Nat} (hi : i < r.kids.length) (ha : ∀ j, j < i → accR (r.kids.getD j default) = true) : 2 + dSz (r.kids.getD i default) + Rx.sizes (r.kids.drop (i + 1)) ≤ dSz r := by
  have := dSzq_get hi ha
  have := dSz_3s h
  omega
theorem dSz_5 {r : Rx} (h : r.kind = 5) (h0 : 0 < r.kids.length) : 2 + dSz (r.kids.getD 0 default) + r.size ≤ dSz r := by
  have := dSz_mem (kid_mem h0)
  rw [dSz_eq r, if_neg (by omega), if_neg (by omega), if_pos h]; omega
theorem dL_sizes (a : Int) (r : Rx) : Rx.sizes (dL a r) ≤ dSz r := by
  by_cases h4 : r.kind = 4
  · rw [dL_4 h4]; have := dSzs_sizes a r.kids; have := dSz_4s h4; omega
  · by_cases h3 : r.kind = 3
    · rw [dL_3 h3]; have := dSzq_sizes a r.kids; have := dSz_3s h3; omega
    · rw [dL_x h4 h3]; exact Nat.zero_le _
theorem mid_eq {i j : Nat} (h : i + j < 4611686018427387904) : IntKind.i64.wrap ((IntKind.u64.wrap ((i : Int) + j)).fdiv (2 ^ (min (1 : Int).toNat IntKind.u64.bits))) = (((i + j) / 2 : Nat) : Int) := by
  have h1 : IntKind.u64.wrap ((i : Int) + j) = (i : Int) + j := by simp [IntKind.wrap, IntKind.signed, IntKind.bits]; omega
  have h2 : ∀ n : Int, 0 ≤ n → n < 4611686018427387904 → IntKind.i64.wrap n = n := fun n h0 h1 => by
    simp [IntKind.wrap, IntKind.signed, IntKind.bits]; omega
  rw [h1, show (min (1 : Int).toNat IntKind.u64.bits) = 1 from rfl, Int.fdiv_eq_ediv_of_nonneg _ (by decide), h2 _ (by omega) (by omega)]
  omega
end Go.Wb

namespace Go.Wb
set_option linter.unusedVariables false
open Go.Am
theorem nf_valid {x : Rx} (h : Nf x) : validR x = true := by
  induction h with
  | none => rw [validR_01 (.inl rfl)]; rfl
  | empty => rw [validR_01 (.inr rfl)]; rfl
  | set h => rw [validR_2 rfl, show setOk (Rx.syms (.mk 2 _ [])) = true from h]; rfl
  | seq h1 h2 h3 ih =>
    rw [validR_34 (.inl rfl)]
    show (true && !(List.any _ _)) = true
    rw [Bool.true_and, Bool.not_eq_true', List.any_eq_false]
    exact fun x hx => by rw [ih x hx]; decide
  | alt h1 h2 h3 h4 h5 h6 ih =>
    rw [validR_34 (.inr rfl)]
    show (true && !(List.any _ _)) = true
    rw [Bool.true_and, Bool.not_eq_true', List.any_eq_false]
    exact fun x hx => by rw [ih x hx]; decide
  | star h1 h2 h3 ih =>
    rw [validR_5 rfl]
    show (true && (true && validR _)) = true
    rw [Bool.true_and, Bool.true_and]; exact ih
theorem dRq_mem {a : Int} {y : Rx} : ∀ {l : List Rx}, y ∈ dRq a l → ∃ i, i < l.length ∧ y = dQ a l i
  | [], h => by rw [dRq] at h; cases h
  | x :: l, h => by
    rw [dRq] at h
    rcases List.mem_cons.1 h with rfl | h
    · exact ⟨0, by simp, rfl⟩
    · split at h
      · obtain ⟨i, hi, e⟩ := dRq_mem h
        exact ⟨i + 1, by simpa using hi, by rw [e]; rfl⟩
      · cases h
theorem dR_nf (a : Int) {x : Rx} (h : Nf x) : Nf (dR a x) := by
  have hseq : ∀ l : List Rx, (∀ x ∈ l, Nf x) → (∀ x ∈ l, Nf (dR a x)) → ∀ y ∈ dRq a l, Nf y := fun l h1 h2 y hy => by
    obtain ⟨i, hi, rfl⟩ := dRq_mem hy
    refine seqN_nf fun z hz => ?_
    rcases List.mem_cons.1 hz with rfl | hz
    · exact h2 _ (kid_mem hi)
    · rw [List.mem_singleton.1 hz]; exact seqN_nf fun u hu => h1 u (List.mem_of_mem_drop hu)
  have hmap : ∀ l : List Rx, (∀ x ∈ l, Nf (dR a x)) → ∀ y ∈ l.map (dR a), Nf y := fun l h2 y hy => by
    obtain ⟨z, hz, rfl⟩ := List.mem_map.1 hy; exact h2 z hz
  induction h with
  | none => rw [dR_x (by decide) (fun h => by cases h), dL_x (by decide) (by decide), altN_nil]; exact .none
  | empty => rw [dR_x (by decide) (fun h => by cases h), dL_x (by decide) (by decide), altN_nil]; exact .none
  | set h =>
    rw [dR_eq, if_pos (show (Rx.mk 2 _ []).kind = 2 from rfl)]
    split
    · exact .empty
    · exact .none
  | seq h1 h2 h3 ih =>
    rw [dR_x (by simp [Rx.kind]) (by simp [Rx.kind]), dL_3 rfl]
    exact altN_nf (hseq _ h2 ih)
  | alt h1 h2 h3 h4 h5 h6 ih =>
    rw [dR_x (by simp [Rx.kind]) (by simp [Rx.kind]), dL_4 rfl]
    exact altN_nf (hmap _ ih)
  | @star y h1 h2 h3 ih =>
    rw [dR_5k rfl (by show 0 < 1; decide)]
    refine seqN_nf fun z hz => ?_
    rcases List.mem_cons.1 hz with rfl | hz
    · exact ih
    · rw [List.mem_singleton.1 hz]; exact .star h1 h2 h3
theorem seqL_self {l : List Rx} (h : ∀ x ∈ l, x.kind ≠ 1 ∧ x.kind ≠ 3) : seqL l = l := by
  induction l with
  | nil => rfl
  | cons x l ih =>
    have e : seqL (x :: l) = seqF x ++ seqL l := rfl
    rw [e, ih fun y hy => h y (List.mem_cons_of_mem _ hy), seqF_x (h x List.mem_cons_self).2 (h x List.mem_cons_self).1]; rfl
theorem seqN_self {l : List Rx} (h2 : 2 ≤ l.length) (h : ∀ x ∈ l, x.kind ≠ 0 ∧ x.kind ≠ 1 ∧ x.kind ≠ 3) : seqN l = .mk 3 [] l := by
  rw [seqN_some (fun j hj => (h _ (kid_mem hj)).1), seqL_self (fun x hx => (h x hx).2), seqE_2 (by omega) (by omega)]
theorem altL_self {l : List Rx} (h : ∀ x ∈ l, x.kind ≠ 4) : altL l = l := by
  induction l with
  | nil => rfl
  | cons x l ih =>
    have e : altL (x :: l) = altF x ++ altL l := rfl
    rw [e, ih fun y hy => h y (List.mem_cons_of_mem _ hy), altF_x (h x List.mem_cons_self)]; rfl
theorem altD_self {l : List Rx} (hn : ∀ x ∈ l, Nf x) (hk : ∀ x ∈ l, x.kind ≠ 0 ∧ x.kind ≠ 4) (hs : Srt leR l) (h2 : ∀ x ∈ l, ∀ y ∈ l, x.kind = 2 → y.kind = 2 → x = y) : altD l = l := by
  rw [altD_uni]
  refine srt_ext leR_an (uniR_srt _) hs fun x => ?_
  rw [uniR_mem, altM_mem, altK_mem, altL_self fun x hx => (hk x hx).2]
  have hS : ∀ y ∈ l, y.kind = 2 → uniI (altS l) = y.syms := fun y hy hy2 => by
    have h3 := ((hn y hy).k2 hy2).2
    rw [← uniI_self (setOk_iff.1 h3).2.1]
    refine uniI_ext fun z => ?_
    rw [altS_mem, altL_self fun x hx => (hk x hx).2]
    exact ⟨fun ⟨q, hq, hq2, hz⟩ => by rw [h2 y hy q hq hy2 hq2]; exact hz, fun hz => ⟨y, hy, hy2, hz⟩⟩
  constructor
  · rintro (h | ⟨h0, rfl⟩)
    · exact h.1
    · obtain ⟨z, hz⟩ := List.length_pos_iff_exists_mem.1 h0
      rw [altS_mem, altL_self fun x hx => (hk x hx).2] at hz
      obtain ⟨y, hy, hy2, _⟩ := hz
      rw [hS y hy hy2, ← ((hn y hy).k2 hy2).1]; exact hy
  · intro hx
    by_cases hx2 : x.kind = 2
    · refine .inr ⟨?_, ?_⟩
      · have h3 := (setOk_iff.1 ((hn x hx).k2 hx2).2).1
        obtain ⟨z, hz⟩ := List.length_pos_iff_exists_mem.1 h3
        exact List.length_pos_iff_exists_mem.2 ⟨z, altS_mem.2 ⟨x, by rw [altL_self fun x hx => (hk x hx).2]; exact hx, hx2, hz⟩⟩
      · rw [hS x hx hx2]; exact ((hn x hx).k2 hx2).1
    · exact .inl ⟨hx, (hk x hx).1, hx2⟩
theorem altC_self {l : List Rx} (hs : Srt leR l) (h : ∀ x ∈ l, x.kind = 1 → ∀ y ∈ l, y.kind ≠ 1 → accR y = false) (hn : ∀ x ∈ l, Nf x) : altC l = l := by
  refine altC_f fun ⟨h1, h2, h3⟩ => ?_
  obtain ⟨y, hy, ha⟩ := List.any_eq_true.1 h3
  have hd := srt_drop hs hy
  have h0 : l.getD 0 default ∈ l := kid_mem (by omega)
  refine absurd ha ?_
  rw [h _ h0 h2 y hd.2 fun q => hd.1 ?_]
  · decide
  · rw [(hn y hd.2).k1 q, (hn _ h0).k1 h2]
theorem altN_self {l : List Rx} (hl : 2 ≤ l.length) (hn : ∀ x ∈ l, Nf x) (hk : ∀ x ∈ l, x.kind ≠ 0 ∧ x.kind ≠ 4) (hs : Srt leR l) (h2 : ∀ x ∈ l, ∀ y ∈ l, x.kind = 2 → y.kind = 2 → x = y)
    (h : ∀ x ∈ l, x.kind = 1 → ∀ y ∈ l, y.kind ≠ 1 → accR y = false) : altN l = .mk 4 [] l := by
  unfold altN; rw [altD_self hn hk hs h2, altC_self hs h hn, altE_2 (by omega) (by omega)]
theorem starN_self {x : Rx} (h : x.kind ≠ 0 ∧ x.kind ≠ 1 ∧ x.kind ≠ 5) (h4 : x.kind = 4 → ∀ y ∈ x.kids, y.kind ≠ 1) (hn : Nf x) : starN x = .mk 5 [] [x] := by
  rw [starN_x (fun e => e.elim h.1 h.2.1) h.2.2, starB_n]
  exact fun e => h4 e.1 _ (kid_mem (by have := (hn.k4 e.1).2.1; omega)) e.2
theorem map_self {α : Type} {f : α → α} {l : List α} (h : ∀ x ∈ l, f x = x) : l.map f = l := by
  rw [List.map_congr_left h]; exact List.map_id _
theorem build_id {x : Rx} (h : Nf x) : buildR false x = x := by
  induction h with
  | none => rw [buildR_x (by decide) (by decide) (by decide)]; rfl
  | empty => rw [buildR_x (by decide) (by decide) (by decide)]; rfl
  | set h => rw [buildR_x (by simp [Rx.kind]) (by simp [Rx.kind]) (by simp [Rx.kind])]; rfl
  | @seq l h1 h2 h3 ih =>
    rw [buildR_3f rfl]
    show seqN (l.map (buildR false)) = _
    rw [map_self ih]; exact seqN_self h1 h3
  | @alt l h1 h2 h3 h4 h5 h6 ih =>
    rw [buildR_4 rfl]
    show altN (l.map (buildR false)) = _
    rw [map_self ih]; exact altN_self h1 h2 h3 h4 h5 h6
  | @star x h1 h2 h3 ih =>
    rw [buildR_5 rfl]
    show starN (buildR false x) = _
    rw [ih]; exact starN_self h2 h3 h1
def simR (r : Rx) : Rx := if validR r = true then buildR false r else noneRx
def revR (r : Rx) : Rx := if validR r = true then buildR true r else noneRx
theorem simR_nf (r : Rx) : Nf (simR r) := by
  unfold simR; split
  · next h => exact build_nf false r h
  · exact .none
theorem simR_id {x : Rx} (h : Nf x) : simR x = x := by unfold simR; rw [if_pos (nf_valid h), build_id h]
def mtR (r : Rx) (w : List Int) (k : Nat) : Rx := (w.take k).foldl (fun x a => dR a x) (simR r)
theorem mtR_succ {r : Rx} {w : List Int} {k : Nat} (h : k < w.length) : mtR r w (k + 1) = dR (w.getD k default) (mtR r w k) := by
  unfold mtR; rw [take_succ' h, List.foldl_append]; rfl
theorem mtR_nf (r : Rx) (w : List Int) (k : Nat) : Nf (mtR r w k) := by
  unfold mtR
  generalize w.take k = v
  have : ∀ (v : List Int) (x : Rx), Nf x → Nf (v.foldl (fun x a => dR a x) x) := by
    intro v
    induction v with
    | nil => exact fun x h => h
    | cons a v ih => exact fun x h => ih _ (dR_nf a h)
  exact this v _ (simR_nf r)
def matchR (r : Rx) (w : List Int) : Bool := accR (mtR r w w.length)
theorem size_simR (r : Rx) : (simR r).size ≤ 2 * r.size := by
  unfold simR; split
  · exact size_build false r
  · have := size_pos r; rw [size_mk]; simp only [List.length_nil, Rx.sizes]; omega
end Go.Wb

namespace Go.Wc
def order : List Int → List Int → Int
  | [], [] => 0
  | [], _ :: _ => -1
  | _ :: _, [] => 1
  | x :: xs, y :: ys => if x < y then -1 else if y < x then 1 else order xs ys
theorem drop_cons {α : Type} [Inhabited α] {l : List α} {k : Nat} (h : k < l.length) : l.drop k = l.getD k default :: l.drop (k + 1) := by
  rw [List.drop_eq_getElem_cons h, List.getD_eq_getElem?_getD, List.getElem?_eq_getElem h]; rfl
end Go.Wc

namespace Go.Wc
open Go.Am
def I64 (n : Int) : Prop := -9223372036854775808 ≤ n ∧ n ≤ 9223372036854775807
def I64s (l : List Int) : Prop := ∀ x ∈ l, I64 x
theorem I64s.get {l : List Int} (h : I64s l) (k : Nat) : I64 (l.getD k default) := by
  rw [List.getD_eq_getElem?_getD]
  cases hk : l[k]? with
  | none => exact ⟨by decide, by decide⟩
  | some x => exact h x (List.mem_of_getElem? hk)
theorem I64s.take {l : List Int} (h : I64s l) (k : Nat) : I64s (l.take k) := fun x hx => h x (List.mem_of_mem_take hx)
theorem take_succ {α : Type} [Inhabited α] {l : List α} {k : Nat} (h : k < l.length) : l.take (k + 1) = l.take k ++ [l.getD k default] := by
  rw [List.take_succ_eq_append_getElem h, List.getD_eq_getElem?_getD, List.getElem?_eq_getElem h]; rfl

def around (n most : Int) : Int := (if n < 0 then -(n + 1) else n) % most
theorem around_lt {n most : Int} (h : 0 < most) : 0 ≤ around n most ∧ around n most < most := ⟨Int.emod_nonneg _ (by omega), Int.emod_lt_of_pos _ h⟩
def atL (l : List Int) (i most : Int) : Int := if i < 0 ∨ (l.length : Int) ≤ i then 0 else around (l.getD i.toNat default) most
theorem atL_lt {l : List Int} {i most : Int} (h : 0 < most) : 0 ≤ atL l i most ∧ atL l i most < most := by
  unfold atL; split
  · omega
  · exact around_lt h
def numL (l : List Int) (i : Int) : Int := if l.length = 0 then 0 else
  let x := (l.getD (i % l.length).toNat default).tmod 1048576
  (if x < 0 then -x else x) + 13 * (i / l.length)
structure Letter where
  text : List UInt8
  base : Int
  mark : Int
  cap : Int
  width : Int
  deriving Inhabited, DecidableEq
def letter (x : Letter) : AV := .agg [sbytes x.text, int x.base, int x.mark, int x.cap, int x.width]
abbrev letters (a : List Letter) : AV := .sl (a.map letter)
def isL (a : List Letter) (x : Int) : Bool := decide (0 ≤ x) && decide (x < a.length)
def lev (a : List Letter) (k x : Int) : Int :=
  if k = 1 then (a.getD x.toNat default).base else if k = 2 then (a.getD x.toNat default).mark else if k = 3 then (a.getD x.toNat default).cap else x
def lets (a : List Letter) (w : List Int) : List Int := w.filter (isL a)
def level (a : List Letter) (w : List Int) (k : Int) : List Int := if 1 ≤ k ∧ k ≤ 4 then (lets a w).map (lev a k) else []
def upto (a : List Letter) (v w : List Int) : Nat → Int → Int
  | 0, _ => 0
  | n + 1, i => let c := order (level a v i) (level a w i); if c ≠ 0 then c else upto a v w n (i + 1)
end Go.Wc

namespace Go.Wb
set_option linter.unusedVariables false
open Go.Am Go.Wc
abbrev minI (a b : Int) : Int := if b < a then b else a
abbrev maxI (a b : Int) : Int := if a < b then b else a
def shpF (most n : Int) (st : List Rx) : List Rx :=
  if n % 8 ≤ 1 then st ++ [.mk 2 [n / 8 % most] []]
  else if n % 8 = 2 then st ++ [if n / 8 % most = n / 8 / most % most then .mk 2 [n / 8 % most] [] else .mk 2 [minI (n / 8 % most) (n / 8 / most % most), maxI (n / 8 % most) (n / 8 / most % most)] []]
  else if n % 8 = 3 ∧ 0 < st.length then st.set (st.length - 1) (.mk 5 [] [st.getD (st.length - 1) default])
  else if n % 8 = 4 ∧ 1 < st.length then (st.set (st.length - 2) (.mk 3 [] [st.getD (st.length - 2) default, st.getD (st.length - 1) default])).take (st.length - 1)
  else if n % 8 = 5 ∧ 1 < st.length then (st.set (st.length - 2) (.mk 4 [] [st.getD (st.length - 2) default, st.getD (st.length - 1) default])).take (st.length - 1)
  else if n % 8 = 6 ∧ 0 < st.length then st.set (st.length - 1) (.mk 4 [] [emptyRx, st.getD (st.length - 1) default])
  else if n % 8 = 7 then st ++ [.mk (minI 1 (n / 8 % 8)) [] []]
  else st
def shpN (most : Int) (l : List Int) : Nat → List Rx
  | 0 => []
  | i + 1 => shpF most (around (l.getD i default) 1048576) (shpN most l i)
def shpE (st : List Rx) : Rx := if st.length = 1 then st.getD 0 default else .mk 3 [] st
def shapedP (l : List Int) (most : Int) : Rx := shpE (shpN most l (min l.length 16))
theorem shpF_len (most n : Int) (st : List Rx) : (shpF most n st).length ≤ st.length + 1 := by
  unfold shpF
  repeat' split
  all_goals simp
  all_goals omega
theorem shpN_len (most : Int) (l : List Int) : ∀ i, (shpN most l i).length ≤ i
  | 0 => Nat.le_refl _
  | i + 1 => Nat.le_trans (shpF_len _ _ _) (Nat.succ_le_succ (shpN_len most l i))
section
variable {most n : Int} {st : List Rx}
theorem shpF_01 (h : n % 8 ≤ 1) : shpF most n st = st ++ [.mk 2 [n / 8 % most] []] := if_pos h
theorem shpF_2a (h : ¬ n % 8 ≤ 1) (h2 : n % 8 = 2) (he : n / 8 % most = n / 8 / most % most) : shpF most n st = st ++ [.mk 2 [n / 8 % most] []] := by
  unfold shpF; rw [if_neg h, if_pos h2, if_pos he]
theorem shpF_2b (h : ¬ n % 8 ≤ 1) (h2 : n % 8 = 2) (he : ¬ n / 8 % most = n / 8 / most % most) : shpF most n st = st ++ [.mk 2 [minI (n / 8 % most) (n / 8 / most % most), maxI (n / 8 % most) (n / 8 / most % most)] []] := by
  unfold shpF; rw [if_neg h, if_pos h2, if_neg he]
theorem shpF_3 (h : n % 8 = 3) (h0 : 0 < st.length) : shpF most n st = st.set (st.length - 1) (.mk 5 [] [st.getD (st.length - 1) default]) := by
  unfold shpF; rw [if_neg (by omega), if_neg (by omega), if_pos ⟨h, h0⟩]
theorem shpF_4 (h : n % 8 = 4) (h0 : 1 < st.length) : shpF most n st = (st.set (st.length - 2) (.mk 3 [] [st.getD (st.length - 2) default, st.getD (st.length - 1) default])).take (st.length - 1) := by
  unfold shpF; rw [if_neg (by omega), if_neg (by omega), if_neg (by omega), if_pos ⟨h, h0⟩]
theorem shpF_5 (h : n % 8 = 5) (h0 : 1 < st.length) : shpF most n st = (st.set (st.length - 2) (.mk 4 [] [st.getD (st.length - 2) default, st.getD (st.length - 1) default])).take (st.length - 1) := by
  unfold shpF; rw [if_neg (by omega), if_neg (by omega), if_neg (by omega), if_neg (by omega), if_pos ⟨h, h0⟩]
theorem shpF_6 (h : n % 8 = 6) (h0 : 0 < st.length) : shpF most n st = st.set (st.length - 1) (.mk 4 [] [emptyRx, st.getD (st.length - 1) default]) := by
  unfold shpF; rw [if_neg (by omega), if_neg (by omega), if_neg (by omega), if_neg (by omega), if_neg (by omega), if_pos ⟨h, h0⟩]
theorem shpF_7 (h : n % 8 = 7) : shpF most n st = st ++ [.mk (minI 1 (n / 8 % 8)) [] []] := by
  unfold shpF; rw [if_neg (by omega), if_neg (by omega), if_neg (by omega), if_neg (by omega), if_neg (by omega), if_neg (by omega), if_pos h]
theorem shpF_x (h : ¬ n % 8 ≤ 1) (h2 : ¬ n % 8 = 2) (h3 : ¬ (n % 8 = 3 ∧ 0 < st.length)) (h4 : ¬ (n % 8 = 4 ∧ 1 < st.length)) (h5 : ¬ (n % 8 = 5 ∧ 1 < st.length)) (h6 : ¬ (n % 8 = 6 ∧ 0 < st.length)) (h7 : ¬ n % 8 = 7) : shpF most n st = st := by
  unfold shpF; rw [if_neg h, if_neg h2, if_neg h3, if_neg h4, if_neg h5, if_neg h6, if_neg h7]
end
def symP (n : Int) : Int := if n.tmod 5 = 4 then n else around n 4
def wordP (l : List Int) (most long : Int) : List Int := (l.take long.toNat).map fun x => around x most
end Go.Wb

