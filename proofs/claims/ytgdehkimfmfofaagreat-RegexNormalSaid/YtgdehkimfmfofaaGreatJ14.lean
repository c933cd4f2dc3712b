/-
  Parts of arrays of the call's own: to read from, to clear.
-/
import Derived.Test.YtgdehkimfmfofaaGreatJ13
import Derived.Test.YtgdehkimfmfofaaGreatJ8
import Derived.Test.YtgdehkimfmfofaaGreatJ11
set_option linter.unusedVariables false
set_option linter.unusedSimpArgs false
namespace Go.Wb
set_option linter.unusedVariables false
open Go.Am
def lbI (a : Int) (s : List Int) : Nat := s.findIdx fun x => decide (a ≤ x)
theorem lb_is {a : Int} {s : List Int} {i : Nat} (hi : i ≤ s.length) (h1 : ∀ k, k < i → s.getD k default < a) (h2 : i < s.length → a ≤ s.getD i default) : i = lbI a s := by
  rcases Nat.lt_or_ge i s.length with h | h
  · refine ((List.findIdx_eq h).2 ⟨?_, fun j hj => ?_⟩).symm
    · have := h2 h; rw [getD_el h] at this; exact decide_eq_true this
    · have := h1 j hj; rw [getD_el (by omega)] at this; exact decide_eq_false (by omega)
  · have hi' : i = s.length := by omega
    subst hi'
    refine (List.findIdx_eq_length.2 fun x hx => ?_).symm
    obtain ⟨j, hj, e⟩ := List.getElem_of_mem hx
    have := h1 j hj
    rw [getD_el hj, e] at this
    exact decide_eq_false (by omega)
theorem lb_yes {a : Int} {s : List Int} {i : Nat} (hi : i < s.length) (h : s.getD i default = a) : a ∈ s := by rw [← h, getD_el hi]; exact List.getElem_mem hi
theorem lb_no {a : Int} {s : List Int} {i : Nat} (hs : Srt leI s) (h1 : ∀ k, k < i → s.getD k default < a) (h2 : i < s.length → a ≤ s.getD i default) (h : i < s.length → s.getD i default ≠ a) : ¬ a ∈ s := by
  intro hm
  obtain ⟨j, hj, e⟩ := List.getElem_of_mem hm
  rw [← getD_el hj] at e
  rcases Nat.lt_trichotomy j i with q | q | q
  · have := h1 j q; omega
  · subst q; exact h hj e
  · have h3 := pair_getD hs q hj
    have h4 := of_decide_eq_true h3.1
    have := h2 (by omega)
    have := h3.2
    omega
mutual
def dR (a : Int) : Rx → Rx
  | .mk k s l => if k = 2 then (if a ∈ s then emptyRx else noneRx) else if k = 4 then altN (dRs a l) else if k = 3 then altN (dRq a l) else if k = 5 then seqN [(dRs a l).getD 0 default, .mk k s l] else noneRx
def dRs (a : Int) : List Rx → List Rx
  | [] => []
  | x :: l => dR a x :: dRs a l
def dRq (a : Int) : List Rx → List Rx
  | [] => []
  | x :: l => seqN [dR a x, seqN l] :: (if accR x = true then dRq a l else [])
end
theorem dRs_map (a : Int) : ∀ l : List Rx, dRs a l = l.map (dR a)
  | [] => by rw [dRs]; rfl
  | x :: l => by rw [dRs, dRs_map a l]; rfl
theorem dR_eq (a : Int) (r : Rx) : dR a r = if r.kind = 2 then (if a ∈ r.syms then emptyRx else noneRx) else if r.kind = 4 then altN (r.kids.map (dR a)) else if r.kind = 3 then altN (dRq a r.kids) else
    if r.kind = 5 then seqN [(r.kids.map (dR a)).getD 0 default, r] else noneRx := by
  cases r with | mk k s l => rw [dR, dRs_map]; rfl
theorem altN_nil : altN [] = noneRx := by
  rfl
def dL (a : Int) (r : Rx) : List Rx := if r.kind = 4 then r.kids.map (dR a) else if r.kind = 3 then dRq a r.kids else []
theorem dL_4 {a : Int} {r : Rx} (h : r.kind = 4) : dL a r = r.kids.map (dR a) := if_pos h
theorem dL_3 {a : Int} {r : Rx} (h : r.kind = 3) : dL a r = dRq a r.kids := by unfold dL; rw [if_neg (by omega), if_pos h]
theorem dL_x {a : Int} {r : Rx} (h : r.kind ≠ 4) (h3 : r.kind ≠ 3) : dL a r = [] := by unfold dL; rw [if_neg h, if_neg h3]
theorem dR_2 {a : Int} {r : Rx} (h : r.kind = 2) (hm : a ∈ r.syms) : dR a r = emptyRx := by rw [dR_eq, if_pos h, if_pos hm]
theorem dR_5 {a : Int} {r : Rx} (h : r.kind = 5) : dR a r = seqN [(r.kids.map (dR a)).getD 0 default, r] := by rw [dR_eq, if_neg (by omega), if_neg (by omega), if_neg (by omega), if_pos h]
theorem dR_5k {a : Int} {r : Rx} (h : r.kind = 5) (h0 : 0 < r.kids.length) : dR a r = seqN [dR a (r.kids.getD 0 default), r] := by rw [dR_5 h, getD_map h0]
theorem dR_x {a : Int} {r : Rx} (h5 : r.kind ≠ 5) (h2 : r.kind = 2 → ¬ a ∈ r.syms) : dR a r = altN (dL a r) := by
  rw [dR_eq]
  by_cases h : r.kind = 2
  · rw [if_pos h, if_neg (h2 h), dL_x (by omega) (by omega), altN_nil]
  · rw [if_neg h]
    by_cases h4 : r.kind = 4
    · rw [if_pos h4, dL_4 h4]
    · rw [if_neg h4]
      by_cases h3 : r.kind = 3
      · rw [if_pos h3, dL_3 h3]
      · rw [if_neg h3, if_neg h5, dL_x h4 h3, altN_nil]
def dQ (a : Int) (l : List Rx) (i : Nat) : Rx := seqN [dR a (l.getD i default), seqN (l.drop (i + 1))]
theorem dRq_drop {a : Int} {l : List Rx} {i : Nat} (h : i < l.length) : dRq a (l.drop i) = dQ a l i :: (if accR (l.getD i default) = true then dRq a (l.drop (i + 1)) else []) := by
  rw [drop_cons h, dRq]; rfl
theorem dRq_upto {a : Int} {l : List Rx} : ∀ i, i ≤ l.length → (∀ j, j < i → accR (l.getD j default) = true) → dRq a l = (List.range i).map (dQ a l) ++ dRq a (l.drop i)
  | 0, _, _ => by simp
  | i + 1, hi, h => by
    rw [dRq_upto i (by omega) fun j hj => h j (by omega), dRq_drop (by omega), if_pos (h i (by omega)), List.range_succ, List.map_append, List.append_assoc]; rfl
theorem dRq_end {a : Int} {l : List Rx} {i : Nat} (hi : i = l.length) (h : ∀ j, j < i → accR (l.getD j default) = true) : dRq a l = (List.range i).map (dQ a l) := by
  rw [dRq_upto i (by omega) h, hi, List.drop_length, dRq, List.append_nil]
theorem dRq_stop {a : Int} {l : List Rx} {i : Nat} (hi : i < l.length) (h : ∀ j, j < i → accR (l.getD j default) = true) (hn : accR (l.getD i default) = false) : dRq a l = (List.range (i + 1)).map (dQ a l) := by
  rw [dRq_upto i (by omega) h, dRq_drop hi, if_neg (by rw [hn]; decide), List.range_succ, List.map_append]; rfl
mutual
def dSz : Rx → Nat
  | .mk k s l => if k = 4 then 2 + dSzs l else if k = 3 then 2 + dSzq l else if k = 5 then 2 + dSzs l + (Rx.mk k s l).size else 2
def dSzs : List Rx → Nat
  | [] => 0
  | x :: l => dSz x + dSzs l
def dSzq : List Rx → Nat
  | [] => 0
  | x :: l => 2 + dSz x + Rx.sizes l + (if accR x = true then dSzq l else 0)
end
theorem dSz_eq (r : Rx) : dSz r = if r.kind = 4 then 2 + dSzs r.kids else if r.kind = 3 then 2 + dSzq r.kids else if r.kind = 5 then 2 + dSzs r.kids + r.size else 2 := by
  cases r with | mk k s l => rw [dSz]; rfl
theorem seqN_two (x y : Rx) : (seqN [x, y]).size ≤ 1 + x.size + y.size := by
  have := size_seqN [x, y]
  simp only [Rx.sizes] at this; omega
theorem dSz_mem {l : List Rx} {x : Rx} (h : x ∈ l) : dSz x ≤ dSzs l := by
  induction l with
  | nil => cases h
  | cons y l ih =>
    rw [dSzs]
    rcases List.mem_cons.1 h with rfl | h
    · omega
    · have := ih h; omega
theorem dSz_spec (a : Int) (r : Rx) : (dR a r).size ≤ dSz r := by
  refine rx_ind (P := fun r => (dR a r).size ≤ dSz r) (fun r ih => ?_) r
  have hs : ∀ l : List Rx, (∀ x ∈ l, (dR a x).size ≤ dSz x) → Rx.sizes (l.map (dR a)) ≤ dSzs l := by
    intro l
    induction l with
    | nil => intro _; exact Nat.le_refl _
    | cons x l ihl =>
      intro h
      have h1 := ihl fun y hy => h y (List.mem_cons_of_mem _ hy)
      have h2 := h x List.mem_cons_self
      rw [List.map_cons, Rx.sizes, dSzs]; omega
  have hq : ∀ l : List Rx, (∀ x ∈ l, (dR a x).size ≤ dSz x) → Rx.sizes (dRq a l) ≤ dSzq l := by
    intro l
    induction l with
    | nil => intro _; rw [dRq]; exact Nat.le_refl _
    | cons x l ihl =>
      intro h
      have h1 := ihl fun y hy => h y (List.mem_cons_of_mem _ hy)
      have h2 := h x List.mem_cons_self
      have h3 := seqN_two (dR a x) (seqN l)
      have h4 := size_seqN l
      rw [dRq, Rx.sizes, dSzq]
      split
      · omega
      · rw [show Rx.sizes [] = 0 from rfl]; omega
  have h1 := hs r.kids ih
  have h2 := hq r.kids ih
  rw [dR_eq, dSz_eq]
  by_cases h : r.kind = 2
  · rw [if_pos h, if_neg (show ¬ r.kind = 4 by omega), if_neg (show ¬ r.kind = 3 by omega), if_neg (show ¬ r.kind = 5 by omega)]
    split <;> rw [size_mk] <;> simp only [List.length_nil, Rx.sizes] <;> omega
  · rw [if_neg h]
    by_cases h4 : r.kind = 4
    · rw [if_pos h4, if_pos h4]; have := size_altN (r.kids.map (dR a)); omega
    · rw [if_neg h4, if_neg h4]
      by_cases h3 : r.kind = 3
      · rw [if_pos h3, if_pos h3]; have := size_altN (dRq a r.kids); omega
      · rw [if_neg h3, if_neg h3]
        by_cases h5 : r.kind = 5
        · rw [if_pos h5, if_pos h5]
          have h6 := seqN_two ((r.kids.map (dR a)).getD 0 default) r
          by_cases h0 : 0 < r.kids.length
          · have := size_mem (kid_mem (l := r.kids.map (dR a)) (i := 0) (by rw [List.length_map]; exact h0)); omega
          · rw [List.eq_nil_of_length_eq_zero (l := r.kids) (by omega)] at h6 ⊢
            have h7 : ((List.map (dR a) []).getD 0 default).size = 1 := rfl
            omega
        · rw [if_neg h5, if_neg h5, size_mk]; simp only [List.length_nil, Rx.sizes]; omega
theorem dSzs_sizes (a : Int) : ∀ l : List Rx, Rx.sizes (l.map (dR a)) ≤ dSzs l
  | [] => Nat.le_refl _
  | x :: l => by
    have h1 := dSzs_sizes a l
    have h2 := dSz_spec a x
    rw [List.map_cons, Rx.sizes, dSzs]; omega
theorem dSzq_sizes (a : Int) : ∀ l : List Rx, Rx.sizes (dRq a l) ≤ dSzq l
  | [] => by rw [dRq]; exact Nat.le_refl _
  | x :: l => by
    have h1 := dSzq_sizes a l
    have h2 := dSz_spec a x
    have h3 := seqN_two (dR a x) (seqN l)
    have h4 := size_seqN l
    rw [dRq, Rx.sizes, dSzq]
    split
    · omega
    · rw [show Rx.sizes [] = 0 from rfl]; omega
theorem dSzq_get : ∀ {l : List Rx} {i : Nat}, i < l.length → (∀ j, j < i → accR (l.getD j default) = true) → 2 + dSz (l.getD i default) + Rx.sizes (l.drop (i + 1)) ≤ dSzq l
  | x :: l, 0, _, _ => by
    rw [dSzq]
    show 2 + dSz x + Rx.sizes l ≤ _
    omega
  | x :: l, i + 1, h, ha => by
    have h1 := dSzq_get (l := l) (i := i) (by simpa using h) fun j hj => ha (j + 1) (by omega)
    have h2 : accR x = true := ha 0 (by omega)
    rw [dSzq, if_pos h2]
    show 2 + dSz (l.getD i default) + Rx.sizes (l.drop (i + 1)) ≤ _
    omega
theorem dSz_4 {r : Rx} (h : r.kind = 4) {i : Nat} (hi : i < r.kids.length) : dSz (r.kids.getD i default) ≤ dSz r ∧ dSzs r.kids ≤ dSz r := by
  have := dSz_mem (kid_mem hi)
  rw [dSz_eq r, if_pos h]; omega
theorem dSz_4s {r : Rx} (h : r.kind = 4) : dSzs r.kids ≤ dSz r := by rw [dSz_eq r, if_pos h]; omega
theorem dSz_3s {r : Rx} (h : r.kind = 3) : dSzq r.kids ≤ dSz r := by rw [dSz_eq r, if_neg (by omega), if_pos h]; omega
theorem dSz_3 {r : Rx} (h : r.kind = 3) {i : Nat} (hi : i < r.kids.length) (ha : ∀ j, j < i → accR (r.kids.getD j default) = true) : 2 + dSz (r.kids.getD i default) + Rx.sizes (r.kids.drop (i + 1)) ≤ dSz r := by
  have := dSzq_get hi ha
  have := dSz_3s h
  omega
theorem dSz_5 {r : Rx} (h : r.kind = 5) (h0 : 0 < r.kids.length) : 2 + dSz (r.kids.getD 0 default) + r.size ≤ dSz r := by
  have := dSz_mem (kid_mem h0)
  rw [dSz_eq r, if_neg (by omega), if_neg (by omega), if_pos h]; omega
theorem dL_sizes (a : Int) (r : Rx) : Rx.sizes (dL a r) ≤ dSz r := by
  by_cases h4 : r.kind = 4
  · rw [dL_4 h4]; have := dSzs_sizes a r.kids; have := dSz_4s h4; omega
  · by_cases h3 : r.kind = 3
    · rw [dL_3 h3]; have := dSzq_sizes a r.kids; have := dSz_3s h3; omega
    · rw [dL_x h4 h3]; exact Nat.zero_le _
theorem mid_eq {i j : Nat} (h : i + j < 4611686018427387904) : IntKind.i64.wrap ((IntKind.u64.wrap ((i : Int) + j)).fdiv (2 ^ (min (1 : Int).toNat IntKind.u64.bits))) = (((i + j) / 2 : Nat) : Int) := by
  have h1 : IntKind.u64.wrap ((i : Int) + j) = (i : Int) + j := by simp [IntKind.wrap, IntKind.signed, IntKind.bits]; omega
  have h2 : ∀ n : Int, 0 ≤ n → n < 4611686018427387904 → IntKind.i64.wrap n = n := fun n h0 h1 => by
    simp [IntKind.wrap, IntKind.signed, IntKind.bits]; omega
  rw [h1, show (min (1 : Int).toNat IntKind.u64.bits) = 1 from rfl, Int.fdiv_eq_ediv_of_nonneg _ (by decide), h2 _ (by omega) (by omega)]
  omega
end Go.Wb

namespace Go.Wb
set_option linter.unusedVariables false
open Go.Am
theorem nf_valid {x : Rx} (h : Nf x) : validR x = true := by
  induction h with
  | none => rw [validR_01 (.inl rfl)]; rfl
  | empty => rw [validR_01 (.inr rfl)]; rfl
  | set h => rw [validR_2 rfl, show setOk (Rx.syms (.mk 2 _ [])) = true from h]; rfl
  | seq h1 h2 h3 ih =>
    rw [validR_34 (.inl rfl)]
    show (true && !(List.any _ _)) = true
    rw [Bool.true_and, Bool.not_eq_true', List.any_eq_false]
    exact fun x hx => by rw [ih x hx]; decide
  | alt h1 h2 h3 h4 h5 h6 ih =>
    rw [validR_34 (.inr rfl)]
    show (true && !(List.any _ _)) = true
    rw [Bool.true_and, Bool.not_eq_true', List.any_eq_false]
    exact fun x hx => by rw [ih x hx]; decide
  | star h1 h2 h3 ih =>
    rw [validR_5 rfl]
    show (true && (true && validR _)) = true
    rw [Bool.true_and, Bool.true_and]; exact ih
theorem dRq_mem {a : Int} {y : Rx} : ∀ {l : List Rx}, y ∈ dRq a l → ∃ i, i < l.length ∧ y = dQ a l i
  | [], h => by rw [dRq] at h; cases h
  | x :: l, h => by
    rw [dRq] at h
    rcases List.mem_cons.1 h with rfl | h
    · exact ⟨0, by simp, rfl⟩
    · split at h
      · obtain ⟨i, hi, e⟩ := dRq_mem h
        exact ⟨i + 1, by simpa using hi, by rw [e]; rfl⟩
      · cases h
theorem dR_nf (a : Int) {x : Rx} (h : Nf x) : Nf (dR a x) := by
  have hseq : ∀ l : List Rx, (∀ x ∈ l, Nf x) → (∀ x ∈ l, Nf (dR a x)) → ∀ y ∈ dRq a l, Nf y := fun l h1 h2 y hy => by
    obtain ⟨i, hi, rfl⟩ := dRq_mem hy
    refine seqN_nf fun z hz => ?_
    rcases List.mem_cons.1 hz with rfl | hz
    · exact h2 _ (kid_mem hi)
    · rw [List.mem_singleton.1 hz]; exact seqN_nf fun u hu => h1 u (List.mem_of_mem_drop hu)
  have hmap : ∀ l : List Rx, (∀ x ∈ l, Nf (dR a x)) → ∀ y ∈ l.map (dR a), Nf y := fun l h2 y hy => by
    obtain ⟨z, hz, rfl⟩ := List.mem_map.1 hy; exact h2 z hz
  induction h with
  | none => rw [dR_x (by decide) (fun h => by cases h), dL_x (by decide) (by decide), altN_nil]; exact .none
  | empty => rw [dR_x (by decide) (fun h => by cases h), dL_x (by decide) (by decide), altN_nil]; exact .none
  | set h =>
    rw [dR_eq, if_pos (show (Rx.mk 2 _ []).kind = 2 from rfl)]
    split
    · exact .empty
    · exact .none
  | seq h1 h2 h3 ih =>
    rw [dR_x (by simp [Rx.kind]) (by simp [Rx.kind]), dL_3 rfl]
    exact altN_nf (hseq _ h2 ih)
  | alt h1 h2 h3 h4 h5 h6 ih =>
    rw [dR_x (by simp [Rx.kind]) (by simp [Rx.kind]), dL_4 rfl]
    exact altN_nf (hmap _ ih)
  | @star y h1 h2 h3 ih =>
    rw [dR_5k rfl (by show 0 < 1; decide)]
    refine seqN_nf fun z hz => ?_
    rcases List.mem_cons.1 hz with rfl | hz
    · exact ih
    · rw [List.mem_singleton.1 hz]; exact .star h1 h2 h3
theorem seqL_self {l : List Rx} (h : ∀ x ∈ l, x.kind ≠ 1 ∧ x.kind ≠ 3) : seqL l = l := by
  induction l with
  | nil => rfl
  | cons x l ih =>
    have e : seqL (x :: l) = seqF x ++ seqL l := rfl
    rw [e, ih fun y hy => h y (List.mem_cons_of_mem _ hy), seqF_x (h x List.mem_cons_self).2 (h x List.mem_cons_self).1]; rfl
theorem seqN_self {l : List Rx} (h2 : 2 ≤ l.length) (h : ∀ x ∈ l, x.kind ≠ 0 ∧ x.kind ≠ 1 ∧ x.kind ≠ 3) : seqN l = .mk 3 [] l := by
  rw [seqN_some (fun j hj => (h _ (kid_mem hj)).1), seqL_self (fun x hx => (h x hx).2), seqE_2 (by omega) (by omega)]
theorem altL_self {l : List Rx} (h : ∀ x ∈ l, x.kind ≠ 4) : altL l = l := by
  induction l with
  | nil => rfl
  | cons x l ih =>
    have e : altL (x :: l) = altF x ++ altL l := rfl
    rw [e, ih fun y hy => h y (List.mem_cons_of_mem _ hy), altF_x (h x List.mem_cons_self)]; rfl
theorem altD_self {l : List Rx} (hn : ∀ x ∈ l, Nf x) (hk : ∀ x ∈ l, x.kind ≠ 0 ∧ x.kind ≠ 4) (hs : Srt leR l) (h2 : ∀ x ∈ l, ∀ y ∈ l, x.kind = 2 → y.kind = 2 → x = y) : altD l = l := by
  rw [altD_uni]
  refine srt_ext leR_an (uniR_srt _) hs fun x => ?_
  rw [uniR_mem, altM_mem, altK_mem, altL_self fun x hx => (hk x hx).2]
  have hS : ∀ y ∈ l, y.kind = 2 → uniI (altS l) = y.syms := fun y hy hy2 => by
    have h3 := ((hn y hy).k2 hy2).2
    rw [← uniI_self (setOk_iff.1 h3).2.1]
    refine uniI_ext fun z => ?_
    rw [altS_mem, altL_self fun x hx => (hk x hx).2]
    exact ⟨fun ⟨q, hq, hq2, hz⟩ => by rw [h2 y hy q hq hy2 hq2]; exact hz, fun hz => ⟨y, hy, hy2, hz⟩⟩
  constructor
  · rintro (h | ⟨h0, rfl⟩)
    · exact h.1
    · obtain ⟨z, hz⟩ := List.length_pos_iff_exists_mem.1 h0
      rw [altS_mem, altL_self fun x hx => (hk x hx).2] at hz
      obtain ⟨y, hy, hy2, _⟩ := hz
      rw [hS y hy hy2, ← ((hn y hy).k2 hy2).1]; exact hy
  · intro hx
    by_cases hx2 : x.kind = 2
    · refine .inr ⟨?_, ?_⟩
      · have h3 := (setOk_iff.1 ((hn x hx).k2 hx2).2).1
        obtain ⟨z, hz⟩ := List.length_pos_iff_exists_mem.1 h3
        exact List.length_pos_iff_exists_mem.2 ⟨z, altS_mem.2 ⟨x, by rw [altL_self fun x hx => (hk x hx).2]; exact hx, hx2, hz⟩⟩
      · rw [hS x hx hx2]; exact ((hn x hx).k2 hx2).1
    · exact .inl ⟨hx, (hk x hx).1, hx2⟩
theorem altC_self {l : List Rx} (hs : Srt leR l) (h : ∀ x ∈ l, x.kind = 1 → ∀ y ∈ l, y.kind ≠ 1 → accR y = false) (hn : ∀ x ∈ l, Nf x) : altC l = l := by
  refine altC_f fun ⟨h1, h2, h3⟩ => ?_
  obtain ⟨y, hy, ha⟩ := List.any_eq_true.1 h3
  have hd := srt_drop hs hy
  have h0 : l.getD 0 default ∈ l := kid_mem (by omega)
  refine absurd ha ?_
  rw [h _ h0 h2 y hd.2 fun q => hd.1 ?_]
  · decide
  · rw [(hn y hd.2).k1 q, (hn _ h0).k1 h2]
theorem altN_self {l : List Rx} (hl : 2 ≤ l.length) (hn : ∀ x ∈ l, Nf x) (hk : ∀ x ∈ l, x.kind ≠ 0 ∧ x.kind ≠ 4) (hs : Srt leR l) (h2 : ∀ x ∈ l, ∀ y ∈ l, x.kind = 2 → y.kind = 2 → x = y)
    (h : ∀ x ∈ l, x.kind = 1 → ∀ y ∈ l, y.kind ≠ 1 → accR y = false) : altN l = .mk 4 [] l := by
  unfold altN; rw [altD_self hn hk hs h2, altC_self hs h hn, altE_2 (by omega) (by omega)]
theorem starN_self {x : Rx} (h : x.kind ≠ 0 ∧ x.kind ≠ 1 ∧ x.kind ≠ 5) (h4 : x.kind = 4 → ∀ y ∈ x.kids, y.kind ≠ 1) (hn : Nf x) : starN x = .mk 5 [] [x] := by
  rw [starN_x (fun e => e.elim h.1 h.2.1) h.2.2, starB_n]
  exact fun e => h4 e.1 _ (kid_mem (by have := (hn.k4 e.1).2.1; omega)) e.2
theorem map_self {α : Type} {f : α → α} {l : List α} (h : ∀ x ∈ l, f x = x) : l.map f = l := by
  rw [List.map_congr_left h]; exact List.map_id _
theorem build_id {x : Rx} (h : Nf x) : buildR false x = x := by
  induction h with
  | none => rw [buildR_x (by decide) (by decide) (by decide)]; rfl
  | empty => rw [buildR_x (by decide) (by decide) (by decide)]; rfl
  | set h => rw [buildR_x (by simp [Rx.kind]) (by simp [Rx.kind]) (by simp [Rx.kind])]; rfl
  | @seq l h1 h2 h3 ih =>
    rw [buildR_3f rfl]
    show seqN (l.map (buildR false)) = _
    rw [map_self ih]; exact seqN_self h1 h3
  | @alt l h1 h2 h3 h4 h5 h6 ih =>
    rw [buildR_4 rfl]
    show altN (l.map (buildR false)) = _
    rw [map_self ih]; exact altN_self h1 h2 h3 h4 h5 h6
  | @star x h1 h2 h3 ih =>
    rw [buildR_5 rfl]
    show starN (buildR false x) = _
    rw [ih]; exact starN_self h2 h3 h1
def simR (r : Rx) : Rx := if validR r = true then buildR false r else noneRx
def revR (r : Rx) : Rx := if validR r = true then buildR true r else noneRx
theorem simR_nf (r : Rx) : Nf (simR r) := by
  unfold simR; split
  · next h => exact build_nf false r h
  · exact .none
theorem revR_nf (r : Rx) : Nf (revR r) := by
  unfold revR; split
  · next h => exact build_nf true r h
  · exact .none
theorem simR_id {x : Rx} (h : Nf x) : simR x = x := by unfold simR; rw [if_pos (nf_valid h), build_id h]
def mtR (r : Rx) (w : List Int) (k : Nat) : Rx := (w.take k).foldl (fun x a => dR a x) (simR r)
theorem mtR_succ {r : Rx} {w : List Int} {k : Nat} (h : k < w.length) : mtR r w (k + 1) = dR (w.getD k default) (mtR r w k) := by
  unfold mtR; rw [take_succ' h, List.foldl_append]; rfl
theorem mtR_nf (r : Rx) (w : List Int) (k : Nat) : Nf (mtR r w k) := by
  unfold mtR
  generalize w.take k = v
  have : ∀ (v : List Int) (x : Rx), Nf x → Nf (v.foldl (fun x a => dR a x) x) := by
    intro v
    induction v with
    | nil => exact fun x h => h
    | cons a v ih => exact fun x h => ih _ (dR_nf a h)
  exact this v _ (simR_nf r)
def matchR (r : Rx) (w : List Int) : Bool := accR (mtR r w w.length)
theorem size_simR (r : Rx) : (simR r).size ≤ 2 * r.size := by
  unfold simR; split
  · exact size_build false r
  · have := size_pos r; rw [size_mk]; simp only [List.length_nil, Rx.sizes]; omega
end Go.Wb

namespace Go.Wc
def order : List Int → List Int → Int
  | [], [] => 0
  | [], _ :: _ => -1
  | _ :: _, [] => 1
  | x :: xs, y :: ys => if x < y then -1 else if y < x then 1 else order xs ys
theorem drop_cons {α : Type} [Inhabited α] {l : List α} {k : Nat} (h : k < l.length) : l.drop k = l.getD k default :: l.drop (k + 1) := by
  rw [List.drop_eq_getElem_cons h, List.getD_eq_getElem?_getD, List.getElem?_eq_getElem h]; rfl
end Go.Wc

namespace Go.Wc
open Go.Am
def I64 (n : Int) : Prop := -9223372036854775808 ≤ n ∧ n ≤ 9223372036854775807
def I64s (l : List Int) : Prop := ∀ x ∈ l, I64 x
theorem I64s.get {l : List Int} (h : I64s l) (k : Nat) : I64 (l.getD k default) := by
  rw [List.getD_eq_getElem?_getD]
  cases hk : l[k]? with
  | none => exact ⟨by decide, by decide⟩
  | some x => exact h x (List.mem_of_getElem? hk)
theorem I64s.take {l : List Int} (h : I64s l) (k : Nat) : I64s (l.take k) := fun x hx => h x (List.mem_of_mem_take hx)
theorem take_succ {α : Type} [Inhabited α] {l : List α} {k : Nat} (h : k < l.length) : l.take (k + 1) = l.take k ++ [l.getD k default] := by
  rw [List.take_succ_eq_append_getElem h, List.getD_eq_getElem?_getD, List.getElem?_eq_getElem h]; rfl

def around (n most : Int) : Int := (if n < 0 then -(n + 1) else n) % most
theorem around_lt {n most : Int} (h : 0 < most) : 0 ≤ around n most ∧ around n most < most := ⟨Int.emod_nonneg _ (by omega), Int.emod_lt_of_pos _ h⟩
def atL (l : List Int) (i most : Int) : Int := if i < 0 ∨ (l.length : Int) ≤ i then 0 else around (l.getD i.toNat default) most
def numL (l : List Int) (i : Int) : Int := if l.length = 0 then 0 else
  let x := (l.getD (i % l.length).toNat default).tmod 1048576
  (if x < 0 then -x else x) + 13 * (i / l.length)
structure Letter where
  text : List UInt8
  base : Int
  mark : Int
  cap : Int
  width : Int
  deriving Inhabited, DecidableEq
def letter (x : Letter) : AV := .agg [sbytes x.text, int x.base, int x.mark, int x.cap, int x.width]
abbrev letters (a : List Letter) : AV := .sl (a.map letter)
def isL (a : List Letter) (x : Int) : Bool := decide (0 ≤ x) && decide (x < a.length)
def lev (a : List Letter) (k x : Int) : Int :=
  if k = 1 then (a.getD x.toNat default).base else if k = 2 then (a.getD x.toNat default).mark else if k = 3 then (a.getD x.toNat default).cap else x
def lets (a : List Letter) (w : List Int) : List Int := w.filter (isL a)
def level (a : List Letter) (w : List Int) (k : Int) : List Int := if 1 ≤ k ∧ k ≤ 4 then (lets a w).map (lev a k) else []
def upto (a : List Letter) (v w : List Int) : Nat → Int → Int
  | 0, _ => 0
  | n + 1, i => let c := order (level a v i) (level a w i); if c ≠ 0 then c else upto a v w n (i + 1)
end Go.Wc

namespace Go.Wb
set_option linter.unusedVariables false
open Go.Am Go.Wc
abbrev minI (a b : Int) : Int := if b < a then b else a
abbrev maxI (a b : Int) : Int := if a < b then b else a
def shpF (most n : Int) (st : List Rx) : List Rx :=
  if n % 8 ≤ 1 then st ++ [.mk 2 [n / 8 % most] []]
  else if n % 8 = 2 then st ++ [if n / 8 % most = n / 8 / most % most then .mk 2 [n / 8 % most] [] else .mk 2 [minI (n / 8 % most) (n / 8 / most % most), maxI (n / 8 % most) (n / 8 / most % most)] []]
  else if n % 8 = 3 ∧ 0 < st.length then st.set (st.length - 1) (.mk 5 [] [st.getD (st.length - 1) default])
  else if n % 8 = 4 ∧ 1 < st.length then (st.set (st.length - 2) (.mk 3 [] [st.getD (st.length - 2) default, st.getD (st.length - 1) default])).take (st.length - 1)
  else if n % 8 = 5 ∧ 1 < st.length then (st.set (st.length - 2) (.mk 4 [] [st.getD (st.length - 2) default, st.getD (st.length - 1) default])).take (st.length - 1)
  else if n % 8 = 6 ∧ 0 < st.length then st.set (st.length - 1) (.mk 4 [] [emptyRx, st.getD (st.length - 1) default])
  else if n % 8 = 7 then st ++ [.mk (minI 1 (n / 8 % 8)) [] []]
  else st
def shpN (most : Int) (l : List Int) : Nat → List Rx
  | 0 => []
  | i + 1 => shpF most (around (l.getD i default) 1048576) (shpN most l i)
def shpE (st : List Rx) : Rx := if st.length = 1 then st.getD 0 default else .mk 3 [] st
def shapedP (l : List Int) (most : Int) : Rx := shpE (shpN most l (min l.length 16))
theorem shpF_len (most n : Int) (st : List Rx) : (shpF most n st).length ≤ st.length + 1 := by
  unfold shpF
  repeat' split
  all_goals simp
  all_goals omega
theorem shpN_len (most : Int) (l : List Int) : ∀ i, (shpN most l i).length ≤ i
  | 0 => Nat.le_refl _
  | i + 1 => Nat.le_trans (shpF_len _ _ _) (Nat.succ_le_succ (shpN_len most l i))
section
variable {most n : Int} {st : List Rx}
theorem shpF_01 (h : n % 8 ≤ 1) : shpF most n st = st ++ [.mk 2 [n / 8 % most] []] := if_pos h
theorem shpF_2a (h : ¬ n % 8 ≤ 1) (h2 : n % 8 = 2) (he : n / 8 % most = n / 8 / most % most) : shpF most n st = st ++ [.mk 2 [n / 8 % most] []] := by
  unfold shpF; rw [if_neg h, if_pos h2, if_pos he]
theorem shpF_2b (h : ¬ n % 8 ≤ 1) (h2 : n % 8 = 2) (he : ¬ n / 8 % most = n / 8 / most % most) : shpF most n st = st ++ [.mk 2 [minI (n / 8 % most) (n / 8 / most % most), maxI (n / 8 % most) (n / 8 / most % most)] []] := by
  unfold shpF; rw [if_neg h, if_pos h2, if_neg he]
theorem shpF_3 (h : n % 8 = 3) (h0 : 0 < st.length) : shpF most n st = st.set (st.length - 1) (.mk 5 [] [st.getD (st.length - 1) default]) := by
  unfold shpF; rw [if_neg (by omega), if_neg (by omega), if_pos ⟨h, h0⟩]
theorem shpF_4 (h : n % 8 = 4) (h0 : 1 < st.length) : shpF most n st = (st.set (st.length - 2) (.mk 3 [] [st.getD (st.length - 2) default, st.getD (st.length - 1) default])).take (st.length - 1) := by
  unfold shpF; rw [if_neg (by omega), if_neg (by omega), if_neg (by omega), if_pos ⟨h, h0⟩]
theorem shpF_5 (h : n % 8 = 5) (h0 : 1 < st.length) : shpF most n st = (st.set (st.length - 2) (.mk 4 [] [st.getD (st.length - 2) default, st.getD (st.length - 1) default])).take (st.length - 1) := by
  unfold shpF; rw [if_neg (by omega), if_neg (by omega), if_neg (by omega), if_neg (by omega), if_pos ⟨h, h0⟩]
theorem shpF_6 (h : n % 8 = 6) (h0 : 0 < st.length) : shpF most n st = st.set (st.length - 1) (.mk 4 [] [emptyRx, st.getD (st.length - 1) default]) := by
  unfold shpF; rw [if_neg (by omega), if_neg (by omega), if_neg (by omega), if_neg (by omega), if_neg (by omega), if_pos ⟨h, h0⟩]
theorem shpF_7 (h : n % 8 = 7) : shpF most n st = st ++ [.mk (minI 1 (n / 8 % 8)) [] []] := by
  unfold shpF; rw [if_neg (by omega), if_neg (by omega), if_neg (by omega), if_neg (by omega), if_neg (by omega), if_neg (by omega), if_pos h]
theorem shpF_x (h : ¬ n % 8 ≤ 1) (h2 : ¬ n % 8 = 2) (h3 : ¬ (n % 8 = 3 ∧ 0 < st.length)) (h4 : ¬ (n % 8 = 4 ∧ 1 < st.length)) (h5 : ¬ (n % 8 = 5 ∧ 1 < st.length)) (h6 : ¬ (n % 8 = 6 ∧ 0 < st.length)) (h7 : ¬ n % 8 = 7) : shpF most n st = st := by
  unfold shpF; rw [if_neg h, if_neg h2, if_neg h3, if_neg h4, if_neg h5, if_neg h6, if_neg h7]
end
def symP (n : Int) : Int := if n.tmod 5 = 4 then n else around n 4
def wordP (l : List Int) (most long : Int) : List Int := (l.take long.toNat).map fun x => around x most
end Go.Wb

namespace Go.Am
open Go.RowKit
set_option linter.unusedVariables false
section
variable {P : Program} {w0 : Fr} {M0 : Nat → Prop} {s : St}
variable {o : Oper} {ρ : Operand → Option SV} {ob : List (Nat × Ob)} {x y z : Operand} {T e : TypeId} {k : Nat} {xs : List AV} {id : Nat} {c : Cls}
theorem run_slice_l' {w : World} {a : Option Addr} {n cap : Nat} {q : IntKind} {i : Int} (hT : P.underlying T = some (.slice e)) (hk : szOf P e = some k) (h : 0 ≤ i ∧ i ≤ n) (hc : n ≤ cap) :
    (Instr.slice T (.slice a n cap) (some (.int q i)) none none).run P w = .ok (sliced a i.toNat n cap k) w := by
  have h1 : 0 ≤ i ∧ i ≤ (cap : Int) := by omega
  have h2 : i ≤ (n : Int) := h.2
  simp [Instr.slice, run_underlying hT, Instr.sliceBounds, run_sliceBound, h1, h2, hc, h.1, run_size hk, sliced]
theorem pure_slice_l {q : IntKind} {i : Int} (ho : o.op = .slice T x (some y) none none) (hT : P.underlying T = some (.slice e)) (hk : szOf P e = some k) (hx : viewAt ρ ob x = some (c, .sl xs)) (hy : scal ρ y = some (.int q i)) (h : 0 ≤ i ∧ i ≤ xs.length) (hxk : ∀ v ∈ xs, (AV.cells v).length = k) :
    Pure P w0 M0 o ρ ob (.v c (.sl (xs.drop i.toNat))) :=
  pure_value fun E w ev hw hh => by
    have hr := viewAt_ok hw hh hx
    have hy' := scal_ok hh hy
    generalize hq : ev x = u at hr
    have hu : ∃ a n cap, u = .slice a n cap ∧ xs.length = n ∧ n ≤ cap := by
      cases hr with
      | sl a n cap _ k cv hn hc _ _ _ _ => exact ⟨a, n, cap, rfl, hn, hc⟩
    obtain ⟨a, n, cap, rfl, hn, hc⟩ := hu
    have hel : P.elem T = e := by simp [Program.elem, hT]
    have hrun := run_slice_l' (P := P) (w := w) (T := T) (a := a) (n := n) (cap := cap) (q := q) (i := i) hT hk (by omega) hc
    have := hr.part hk hxk (i := i.toNat) (j := n) (by omega) (by omega)
    rw [show (xs.drop i.toNat).take (n - i.toNat) = xs.drop i.toNat from List.take_of_length_le (by simp; omega)] at this
    refine ⟨_, w, ?_, .refl _ _, this⟩
    simp only [execOp, ho, hq, hy', Option.map_some, Option.map_none, Sem.run_bind, run_sliceAt_slice (P := P) (w := w) T _ _ _ _ (by rw [hel]; exact hT), hrun, Result.andThen_ok, Sem.run_pure]
theorem pure_slice_lm {α : Type} {f : α → AV} {l : List α} {q : IntKind} {i : Int} (ho : o.op = .slice T x (some y) none none) (hT : P.underlying T = some (.slice e)) (hk : szOf P e = some k) (hx : viewAt ρ ob x = some (c, .sl (l.map f))) (hy : scal ρ y = some (.int q i)) (h : 0 ≤ i ∧ i ≤ l.length) (hxk : ∀ z, (AV.cells (f z)).length = k) :
    Pure P w0 M0 o ρ ob (.v c (.sl ((l.drop i.toNat).map f))) := by
  have := pure_slice_l (P := P) (w0 := w0) (M0 := M0) ho hT hk hx hy (by simpa using h) (map_len hxk)
  rwa [← List.map_drop] at this
theorem pure_slice_ownl {q : IntKind} {i : Int} (ho : o.op = .slice T x (some y) none none) (hT : P.underlying T = some (.slice e)) (hk : szOf P e = some k) (hx : ρ x = some (.own id)) (hl : ob.lookup id = some (.arr e xs)) (hy : scal ρ y = some (.int q i)) (h : 0 ≤ i ∧ i ≤ xs.length) :
    Pure P w0 M0 o ρ ob (.vsl id i.toNat (xs.length - i.toNat)) :=
  pure_value fun E w ev hw hh => by
    have hr := hh x _ hx e xs hl
    have hy' := scal_ok hh hy
    obtain ⟨vals, ⟨hown, hownF⟩, h2, h3⟩ := hw.objs id _ hl
    have hu : ∃ a cap, E.cur id = .slice a xs.length cap ∧ xs.length ≤ cap := by
      rcases hown.2 with ⟨hv, hn⟩ | ⟨g, cap, cur, hv, hgb, hh, hnc, _⟩
      · exact ⟨none, 0, by rw [hv, hn], by omega⟩
      · exact ⟨_, cap, hv, hnc⟩
    obtain ⟨a, cap, hv, hc⟩ := hu
    have hel : P.elem T = e := by simp [Program.elem, hT]
    have hrun := run_slice_l' (P := P) (w := w) (T := T) (a := a) (n := xs.length) (cap := cap) (q := q) (i := i) hT hk h hc
    refine ⟨sliced a i.toNat xs.length cap k, w, ?_, .refl _ _, fun e' xs' hl' => ?_⟩
    · simp only [execOp, ho, hr, hv, hy', Option.map_some, Option.map_none, Sem.run_bind, run_sliceAt_slice (P := P) (w := w) T _ _ _ _ (by rw [hel]; exact hT), hrun, Result.andThen_ok, Sem.run_pure]
    · rw [hl] at hl'
      simp only [Option.some.injEq, Ob.arr.injEq] at hl'
      obtain ⟨rfl, rfl⟩ := hl'
      exact ⟨by omega, a, _, cap, hv, by rw [cellsOf_of hk]; congr 1; omega⟩
theorem pure_len_vsl {i n : Nat} (ho : o.op = .call { callee := .builtin .len, args := #[x], argTypes := #[T] }) (hT : P.underlying T = some (.slice e)) (hx : ρ x = some (.vsl id i n)) (hl : ob.lookup id = some (.arr e xs)) :
    Pure P w0 M0 o ρ ob (.v .pl (int n)) :=
  pure_value fun E w ev hw hh => by
    obtain ⟨hle, a, len, cap, hc, hv⟩ := hh x _ hx e xs hl
    refine ⟨.int .i64 n, w, ?_, .refl _ _, .sc _ rfl⟩
    have hel : P.elem T = e := by simp [Program.elem, hT]
    have hs : ev x = .slice (if cap = i then a else a.map (·.add (i * P.cellsOf e))) n (cap - i) := by rw [hv]; unfold sliced; rw [Nat.add_sub_cancel_left]
    simp [execOp, ho, resolve, hs, invoke, builtin, Builtin.len_, run_underlying hT, goInt]
theorem pure_index_vsl {q : IntKind} {i n : Nat} {j : Int} (ho : o.op = .indexAddr T x y) (hT : P.underlying T = some (.slice e)) (hk : szOf P e = some k) (hx : ρ x = some (.vsl id i n)) (hl : ob.lookup id = some (.arr e xs)) (hy : scal ρ y = some (.int q j)) (h : 0 ≤ j ∧ j < n) :
    Pure P w0 M0 o ρ ob (.pel id (i + j.toNat) 0) :=
  pure_value fun E w ev hw hh => by
    obtain ⟨hle, a, len, cap', hc, hvx⟩ := hh x _ hx e xs hl
    have hi := scal_ok hh hy
    obtain ⟨vals, ⟨hown, hownF⟩, h2, h3⟩ := hw.objs id _ hl
    rcases hown.2 with ⟨hv, hn⟩ | ⟨g, cap, cur, hv, hgb, hhh, hnc, _⟩
    · omega
    · rw [hv] at hc
      simp only [Value.slice.injEq] at hc
      obtain ⟨rfl, rfl, rfl⟩ := hc
      have hs : ev x = .slice (some ⟨g, i * P.cellsOf e, none⟩) n (cap - i) := by
        rw [hvx]; unfold sliced
        rw [Nat.add_sub_cancel_left, if_neg (by omega)]
        simp [Addr.add_lit]
      have hel : P.elem T = e := by simp [Program.elem, hT]
      refine ⟨.pointer (some ⟨g, (i + j.toNat) * P.cellsOf e + 0, none⟩), w, ?_, .refl _ _, fun e' xs' h' => ?_⟩
      · have hin : 0 ≤ j ∧ j < (n : Int) := h
        simp [execOp, ho, hs, hi, run_indexAt_slice, hel, hT, hin, run_size hk, cellsOf_of hk, Addr.add_lit, Nat.add_mul]
      · rw [hl] at h'
        simp only [Option.some.injEq, Ob.arr.injEq] at h'
        obtain ⟨rfl, rfl⟩ := h'
        exact ⟨by omega, g, by rw [hv]; rfl, rfl⟩
theorem own_spl {a : Act} {w : World} {E : Env} (hs : SimE P w0 M0 E s a w) (hnd : Nodup s.s = true) (hM0 : ∀ b, M0 b → b < w0.w.heap.size) (hl : s.o.lookup id = some (.arr e xs)) {g : Nat} (hg : (E.cur id).ownBlock = some g) {p : Nat} {us : List Value} {ms : List AV} (hlen : us.length = ms.length)
    (hp : p + us.length ≤ xs.length * P.cellsOf e) (hms : ∀ (j : Nat) d, ms[j]? = some d → AV.leaf d = true ∧ Rep w (clsM M0 (owned E s.o) .pl) (us.getD j undef) d) {xs' : List AV} (hxl : xs'.length = xs.length) (hxk : ∀ x ∈ xs', (AV.cells x).length = P.cellsOf e)
    (hflat : flat xs' = spl (flat xs) p ms) : ∃ cur, w.heap[g]? = some (.cells cur e (0, 0)) ∧ p + us.length ≤ cur.size ∧ SimE P w0 M0 E (s.upd false id (.arr e xs')) a (w.setRow g (spl cur.toList p us).toArray) := by
  obtain ⟨vals, ⟨hown, hownF⟩, h2, h3⟩ := hs.wok.objs id _ hl
  obtain ⟨hvl, hform⟩ := hown
  rcases hform with ⟨hv, hn0⟩ | ⟨g', cap, cur, hv, hgb, hh, hnc, hcm, hcs, htake⟩
  · rw [hv] at hg; cases hg
  · have hgg : g' = g := by rw [hv] at hg; simpa [Value.ownBlock] using hg
    subst hgg
    have hvals : vals.length ≤ cur.size := by rw [hvl, hcs]; exact Nat.mul_le_mul_right _ hnc
    have hspl : p + us.length ≤ vals.length := by omega
    refine ⟨cur, hh, by omega, hs.upd false (fun _ => ⟨rfl, .inl ⟨e, xs, _, hl, rfl, by simp [hxl]⟩⟩) hnd hM0 (fun i hi => ⟨rfl, rfl⟩) (.inr rfl) (some g') setRow_grown (fun _ => Nat.le_refl _) (fun g hg' => ⟨_, hl, by simp only [Option.some.injEq] at hg'; subst hg'; exact hg⟩) (fun b hb => .inl ⟨_, hl, hb⟩) (fun rep sv => ?_)⟩
    refine ⟨spl vals p us, ⟨⟨by rw [spl_length hspl, hvl, hxl], .inr ⟨g', cap, _, by rw [hv, hxl], hgb, setRow_heap w _ _ _ e _ hh, by rw [hxl]; exact hnc, hcm, ?_, ?_⟩⟩, hownF⟩, hxk, fun j d hj => ?_⟩
    · rw [List.size_toArray, spl_length (by simp; omega)]; simpa using hcs
    · rw [hxl, ← hvl]
      have ht : cur.toList.take vals.length = vals := by rw [hvl]; exact htake
      apply List.ext_getElem?
      intro j
      rw [List.getElem?_take, spl_get (by simp; omega), spl_get hspl]
      by_cases hj : j < vals.length
      · rw [if_pos hj]
        split
        · rfl
        · have : (cur.toList.take vals.length)[j]? = cur.toList[j]? := by rw [List.getElem?_take, if_pos hj]
          rw [← this, ht]
      · rw [if_neg hj, if_neg (by omega), List.getElem?_eq_none (by omega)]
    · rw [hflat, spl_get (by rw [flat_length xs h2, ← hvl]; omega)] at hj
      rw [List.getD_eq_getElem?_getD, spl_get hspl, hlen]
      split at hj
      · rename_i hin
        rw [if_pos hin]
        have := hms _ d hj
        rw [List.getD_eq_getElem?_getD] at this
        exact ⟨this.1, rep .pl _ _ this.2 (by simp)⟩
      · rename_i hin
        rw [if_neg hin]
        have := h3 j d hj
        rw [List.getD_eq_getElem?_getD] at this
        exact ⟨this.1, rep .pl _ _ this.2 (by simp)⟩
theorem zeroCells_list (zs : List Value) (n : Nat) : (Builtin.zeroCells zs.toArray n).toList = (List.replicate n zs).flatten := by
  rcases Nat.eq_zero_or_pos zs.length with h0 | h0
  · have : zs = [] := List.eq_nil_of_length_eq_zero h0
    subst this
    simp [Builtin.zeroCells]
  · have hlen : ∀ n, ((List.replicate n zs).flatten).length = n * zs.length := fun n => by simp
    apply List.ext_getElem?
    intro j
    unfold Builtin.zeroCells
    simp only [List.size_toArray, Array.toList_map, Array.toList_range, List.getElem?_map]
    rcases Nat.lt_or_ge j (n * zs.length) with hj | hj
    · rw [List.getElem?_range hj, Option.map_some]
      have hm : j % zs.length < zs.length := Nat.mod_lt _ h0
      have key : ∀ (n j : Nat), j < n * zs.length → ((List.replicate n zs).flatten)[j]? = zs[j % zs.length]? := by
        intro n
        induction n with
        | zero => intro j hj; omega
        | succ n ih =>
          intro j hj
          rw [List.replicate_succ, List.flatten_cons]
          rcases Nat.lt_or_ge j zs.length with h1 | h1
          · rw [List.getElem?_append_left h1, Nat.mod_eq_of_lt h1]
          · rw [List.getElem?_append_right h1, ih _ (by rw [Nat.succ_mul] at hj; omega), Nat.mod_eq_sub_mod h1]
      rw [key n j hj, List.getElem?_eq_getElem hm, getElem!_pos _ _ (by simpa using hm)]
      simp
    · rw [List.getElem?_eq_none (by simpa using hj), List.getElem?_eq_none (by rw [hlen]; exact hj)]
      rfl
theorem step_clear_vsl {i n : Nat} {zv : AV} {zs : List Value} (ho : o.op = .call { callee := .builtin .clear, args := #[x], argTypes := #[T] }) (hd : o.dst = none) (hnd : Nodup s.s = true) (hT : P.underlying T = some (.slice e)) (hk : szOf P e = some k) (hx : s.ev x = some (.vsl id i n)) (hl : s.o.lookup id = some (.arr e xs))
    (hz : zeroOf P e = some zs) (hzs : zs.all Value.oneCell' = true) (hzl : zs.length = k) (hzv : zv.cells = zs.map .sc) (hM0 : ∀ b, M0 b → b < w0.w.heap.size) :
    Step P w0 M0 o s (s.upd false id (.arr e (xs.take i ++ (List.replicate n zv ++ xs.drop (i + n))))) := by
  rintro a w Q ⟨E, hs⟩
  obtain ⟨hle, ad, len, cap', hc, hvx⟩ := hs.ev hx e xs hl
  have hob := hs.wok.objs id _ hl
  obtain ⟨vals, ⟨hown, hownF⟩, h2, h3⟩ := hob
  have hck := cellsOf_of hk
  obtain ⟨v0, hi0, hv0⟩ : ∃ v0, (P.info? e).bind (·.zero) = some v0 ∧ v0.cells.toList = zs := by
    unfold zeroOf at hz
    rw [Option.map_eq_some_iff] at hz
    exact hz
  have hzr : ∀ w, (zeroValue e).run P w = .ok v0 w := fun w => by
    rw [Option.bind_eq_some_iff] at hi0
    obtain ⟨inf, q1, q2⟩ := hi0
    simp [zeroValue, typeInfo, q1, q2]
  have hs' : a.eval x = .slice (if cap' = i then ad else ad.map (·.add (i * P.cellsOf e))) n (cap' - i) := by rw [hvx]; unfold sliced; rw [Nat.add_sub_cancel_left]
  have hxk' : ∀ u ∈ xs.take i ++ (List.replicate n zv ++ xs.drop (i + n)), (AV.cells u).length = P.cellsOf e := fun u hu => by
    rcases List.mem_append.1 hu with hu | hu
    · exact h2 u (List.mem_of_mem_take hu)
    · rcases List.mem_append.1 hu with hu | hu
      · rw [List.eq_of_mem_replicate hu, hzv, List.length_map, hzl, hck]
      · exact h2 u (List.mem_of_mem_drop hu)
  have hxl' : (xs.take i ++ (List.replicate n zv ++ xs.drop (i + n))).length = xs.length := by simp; omega
  unfold Oper.wp
  rcases Nat.eq_zero_or_pos n with hn0 | hn0
  · subst hn0
    have hrun : (execOp a.eval o).run P w = .ok (.value (.tuple #[])) w := by
      generalize (if cap' = i then ad else ad.map (·.add (i * P.cellsOf e))) = A at hs'
      cases A <;> simp [execOp, ho, resolve, hs', invoke, builtin, Builtin.clear_, run_underlying hT]
    rw [hrun]
    simp only [Oper.upon, hd, Act.put]
    have e1 : xs.take i ++ (List.replicate 0 zv ++ xs.drop (i + 0)) = xs := by simp
    rw [e1]
    exact ⟨E, hs.upd false (fun _ => ⟨rfl, .inl ⟨e, xs, _, hl, rfl, rfl⟩⟩) hnd hM0 (fun i hi => ⟨rfl, rfl⟩) (.inr rfl) none ⟨rfl, rfl, rfl, Nat.le_refl _, fun _ _ _ => rfl⟩ (fun _ => Nat.le_refl _) (fun g hg' => by cases hg') (fun b hb => .inl ⟨_, hl, hb⟩) (fun rep sv => ⟨vals, ⟨hown, hownF⟩, h2, fun j d hd => ⟨(h3 j d hd).1, rep .pl _ _ (h3 j d hd).2 (by simp)⟩⟩)⟩
  · rcases hown.2 with ⟨hv, hn⟩ | ⟨g, cap, cur, hv, hgb, hhh, hnc, _, hcs, _⟩
    · omega
    · rw [hv] at hc
      simp only [Value.slice.injEq] at hc
      obtain ⟨rfl, rfl, rfl⟩ := hc
      rw [if_neg (by omega)] at hs'
      simp only [Option.map_some, Addr.add_lit, Nat.zero_add] at hs'
      let us := (List.replicate n zs).flatten
      have hul : us.length = n * k := by simp [us, hzl]
      have hone : ∀ u ∈ us, u.oneCell' = true := fun u hu => by
        obtain ⟨l, hl1, hl2⟩ := List.mem_flatten.1 hu
        rw [List.eq_of_mem_replicate hl1] at hl2
        exact List.all_eq_true.1 hzs u hl2
      have hmul : i * k + n * k ≤ xs.length * k := by rw [← Nat.add_mul]; exact Nat.mul_le_mul_right _ hle
      have hft : (flat (xs.take i)).length = i * k := by rw [flat_length (k := k) (xs.take i) (fun v hv => by rw [← hck]; exact h2 v (List.mem_of_mem_take hv)), List.length_take, Nat.min_eq_left (by omega)]
      have hft2 : (flat (xs.take (i + n))).length = (i + n) * k := by rw [flat_length (k := k) (xs.take (i + n)) (fun v hv => by rw [← hck]; exact h2 v (List.mem_of_mem_take hv)), List.length_take, Nat.min_eq_left (by omega)]
      have hflr : ∀ n, flat (List.replicate n zv) = ((List.replicate n zs).flatten).map .sc := fun n => by
        induction n with
        | zero => rfl
        | succ n ih =>
          rw [List.replicate_succ, List.replicate_succ, List.flatten_cons, List.map_append, ← ih, ← hzv]; rfl
      obtain ⟨cur', q1, q2, q3⟩ := own_spl (us := us) (ms := us.map .sc) (p := i * k) (g := g) (xs' := xs.take i ++ (List.replicate n zv ++ xs.drop (i + n))) hs hnd hM0 hl (by rw [hv]; rfl) (by simp) (by rw [hul, hck]; exact hmul) (fun j d hd => by
          rw [List.getElem?_map, Option.map_eq_some_iff] at hd
          obtain ⟨u, hu, rfl⟩ := hd
          refine ⟨rfl, ?_⟩
          rw [List.getD_eq_getElem?_getD, hu]
          exact .sc u (hone u (List.mem_of_getElem? hu))) hxl' hxk' (by
          rw [flat_append, flat_append, hflr]
          have e1 : flat xs = flat (xs.take i) ++ flat (xs.drop i) := by rw [← flat_append, List.take_append_drop]
          have e2 : flat xs = flat (xs.take (i + n)) ++ flat (xs.drop (i + n)) := by rw [← flat_append, List.take_append_drop]
          unfold spl
          rw [List.append_assoc]
          congr 1
          · rw [e1, List.take_left' hft]
          · congr 1
            rw [e2, List.drop_left' (by rw [hft2]; simp [hul, Nat.add_mul])])
      rw [hhh] at q1
      simp only [Option.some.injEq, Obj.cells.injEq, and_true] at q1
      subst q1
      have hst := run_storeCells_at P g (i * k) e us 0 cur w hhh (by simp; omega) hone
      simp only [Nat.add_zero] at hst
      have hrun : (execOp a.eval o).run P w = .ok (.value (.tuple #[])) (w.setRow g (spl cur.toList (i * k) us).toArray) := by
        obtain ⟨m, rfl⟩ : ∃ m, n = m + 1 := ⟨n - 1, by omega⟩
        have hzc : (Builtin.zeroCells v0.cells (m + 1)).toList = us := by
          have : v0.cells = zs.toArray := by rw [← hv0]
          rw [this, zeroCells_list]
        simp [execOp, ho, resolve, hs', invoke, builtin, Builtin.clear_, run_underlying hT, hzr, hzc, hck, hst, spl]
      rw [hrun]
      simp only [Oper.upon, hd, Act.put]
      exact ⟨E, q3⟩
end
end Go.Am

