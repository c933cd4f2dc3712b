/-
  Plain functions: how much the lists of the cover hold, from tables.
-/
import Derived.Test.YtgdehkimfmfofaaGreatJ21
import Derived.Test.YtgdehkimfmfofaaGreatJ16
import Derived.Test.YtgdehkimfmfofaaGreatJ20
set_option linter.unusedVariables false
set_option linter.unusedSimpArgs false
namespace Go.Wb
set_option linter.unusedVariables false
set_option linter.unusedSimpArgs false
open Go.Am
def rStarB (x : Rx) : Rx := if x.kind = 4 then rAlt (x.kids.filter fun y => !decide (y.kind = 1)) else x
theorem rStarB_4 {x : Rx} (h : x.kind = 4) : rStarB x = rAlt (x.kids.filter fun y => !decide (y.kind = 1)) := if_pos h
theorem rStarB_x {x : Rx} (h : ¬ x.kind = 4) : rStarB x = x := if_neg h
theorem rStar_e {x : Rx} (h : x.kind = 0 ∨ x.kind = 1) : rStar x = emptyRx := if_pos h
theorem rStar_5 {x : Rx} (h : ¬ (x.kind = 0 ∨ x.kind = 1)) (h5 : x.kind = 5) : rStar x = x := by unfold rStar; rw [if_neg h, if_pos h5]
theorem rStar_x {x : Rx} (h : ¬ (x.kind = 0 ∨ x.kind = 1)) (h5 : ¬ x.kind = 5) : rStar x = .mk 5 [] [rStarB x] := by unfold rStar; rw [if_neg h, if_neg h5]; rfl
theorem filt_t {p : Rx → Bool} {l : List Rx} {i : Nat} (h : i < l.length) (hp : p (l.getD i default) = true) : (l.take (i + 1)).filter p = (l.take i).filter p ++ [l.getD i default] := by
  rw [take_succ' h, List.filter_append, List.filter_cons_of_pos hp]; rfl
theorem filt_f {p : Rx → Bool} {l : List Rx} {i : Nat} (h : i < l.length) (hp : p (l.getD i default) = false) : (l.take (i + 1)).filter p = (l.take i).filter p := by
  rw [take_succ' h, List.filter_append, List.filter_cons_of_neg (by rw [hp]; decide), List.filter_nil, List.append_nil]
abbrev no1 (y : Rx) : Bool := !decide (y.kind = 1)
theorem no1_t {y : Rx} (h : ¬ y.kind = 1) : no1 y = true := by simp [h]
theorem no1_f {y : Rx} (h : y.kind = 1) : no1 y = false := by simp [h]
theorem sizes_filter (p : Rx → Bool) (l : List Rx) : Rx.sizes (l.filter p) ≤ Rx.sizes l := sizes_sublist List.filter_sublist
theorem Nf.kids {x y : Rx} (h : Nf x) (hy : y ∈ x.kids) : Nf y := by
  cases h with
  | none => cases hy
  | empty => cases hy
  | set h => cases hy
  | seq h1 h2 h3 => exact h2 y hy
  | alt h1 h2 h3 h4 h5 h6 => exact h2 y hy
  | star h1 h2 h3 => rw [List.mem_singleton.1 hy]; exact h1
def nrL (t : Bool) (r : Rx) : List Rx := if t = true ∧ r.kind = 3 then (r.kids.map (buildR t)).reverse else r.kids.map (buildR t)
theorem nrL_len (t : Bool) (r : Rx) : (nrL t r).length = r.kids.length := by unfold nrL; split <;> simp
theorem nrL_t {t : Bool} {r : Rx} {i k : Nat} (ht : t = true) (h3 : r.kind = 3) (hi : i < r.kids.length) (hk : (k : Int) = (r.kids.length : Int) - 1 - i) : (nrL t r).getD i default = buildR t (r.kids.getD k default) := by
  unfold nrL
  rw [if_pos ⟨ht, h3⟩, List.getD_eq_getElem?_getD, List.getElem?_reverse (by rw [List.length_map]; exact hi), List.length_map, List.getElem?_map, ← show k = r.kids.length - 1 - i by omega, List.getElem?_eq_getElem (show k < r.kids.length by omega), Option.map_some, Option.getD_some, getD_el (by omega)]
theorem nrL_f {t : Bool} {r : Rx} {i : Nat} (h : ¬ (t = true ∧ r.kind = 3)) (hi : i < r.kids.length) : (nrL t r).getD i default = buildR t (r.kids.getD i default) := by
  unfold nrL; rw [if_neg h, getD_map hi]
theorem nrL_sizes (t : Bool) (r : Rx) : Rx.sizes (nrL t r) ≤ 2 * Rx.sizes r.kids := by
  have := sizes_build t r.kids
  unfold nrL; split
  · rw [sizes_rev]; exact this
  · exact this
theorem nrL_nf {t : Bool} {r : Rx} (hv : validR r = true) : ∀ x ∈ nrL t r, Nf x := fun x hx => by
  have : x ∈ r.kids.map (buildR t) := by
    unfold nrL at hx; split at hx
    · exact List.mem_reverse.1 hx
    · exact hx
  obtain ⟨y, hy, rfl⟩ := List.mem_map.1 this
  exact build_nf t y (valid_kids hv y hy)
theorem nr_3 {t : Bool} {r : Rx} (h : r.kind = 3) : buildR t r = seqN (nrL t r) := by
  unfold nrL
  cases t with
  | true => rw [if_pos ⟨rfl, h⟩]; exact buildR_3t h
  | false => rw [if_neg (fun q => by cases q.1)]; exact buildR_3f h
theorem nr_4 {t : Bool} {r : Rx} (hv : validR r = true) (h : r.kind = 4) : buildR t r = rAlt (nrL t r) := by
  rw [rAlt_eq (nrL_nf hv)]; unfold nrL; rw [if_neg fun q => by omega]; exact buildR_4 h
theorem nr_5 {t : Bool} {r : Rx} (hv : validR r = true) (h : r.kind = 5) : buildR t r = rStar ((nrL t r).getD 0 default) := by
  have hl := (valid_5 hv h).2
  rw [rStar_eq (nrL_nf hv _ (kid_mem (by rw [nrL_len]; omega)))]; unfold nrL; rw [if_neg fun q => by omega]; exact buildR_5 h
theorem nr_x {t : Bool} {r : Rx} (hv : validR r = true) (h3 : ¬ r.kind = 3) (h4 : ¬ r.kind = 4) (h5 : ¬ r.kind = 5) : buildR t r = r := by
  rw [buildR_x h3 h4 h5]
  have hk := valid_kinds hv
  have : r.kids = [] := by
    by_cases h2 : r.kind = 2
    · rw [validR_2 h2, Bool.and_eq_true] at hv
      exact List.eq_nil_of_length_eq_zero (of_decide_eq_true hv.1)
    · rw [validR_01 (by omega), Bool.and_eq_true] at hv
      exact List.eq_nil_of_length_eq_zero (of_decide_eq_true hv.2)
  rw [← this, ← Rx.eta]
end Go.Wb

namespace Go.Wb
set_option linter.unusedVariables false
set_option linter.unusedSimpArgs false
open Go.Am
def sufs : List Int → List (List Int)
  | [] => [[]]
  | a :: v => (a :: v) :: sufs v
def sufp : List Int → List (List Int)
  | [] => []
  | a :: v => (a :: v) :: sufp v
def Dv (x : Rx) (v : List Int) : Rx := v.foldl (fun t b => dR b t) x
def als (t : Rx) : List Rx := (altF t).filter fun a => decide (3 ≤ a.kind)
theorem seqN_kinds {l : List Rx} (h : (seqN l).kind ≠ 0) : ∀ x ∈ l, x.kind ≠ 0 := fun x hx e => h (by
  unfold seqN; rw [if_pos (List.any_eq_true.2 ⟨x, hx, decide_eq_true e⟩)]; rfl)
theorem seqF_seqN {l : List Rx} (hl : ∀ x ∈ l, Nf x) (h0 : (seqN l).kind ≠ 0) : seqF (seqN l) = seqL l := by
  have hk := seqN_kinds h0
  have hm : ∀ y ∈ seqL l, y.kind ≠ 0 ∧ y.kind ≠ 1 ∧ y.kind ≠ 3 := fun y hy => by
    obtain ⟨x, hx, hy⟩ := List.mem_flatMap.1 hy
    exact (seqF_nf (hl x hx) (hk x hx) hy).2
  rw [seqN_some fun j hj => hk _ (kid_mem hj)]
  generalize hs : seqL l = s at hm ⊢
  match s with
  | [] => rfl
  | [y] => exact seqF_x (hm y List.mem_cons_self).2.2 (hm y List.mem_cons_self).2.1
  | y :: z :: s => rw [seqE_2 (by simp) (by simp)]; rfl
def stp (b : Int) : List Rx → List (List Rx)
  | [] => []
  | x :: l => if (dR b x).kind = 0 then stp b l else (seqF (dR b x) ++ l) :: stp b l
def cv (x : Rx) (u : List Int) (T : List (List Rx)) : List (List Rx) := if x.kind = 5 then T else seqF (Dv x u) :: T
mutual
def covT : Rx → List Int → List (List Rx)
  | .mk k s l, v => if k = 4 then covA l v else if k = 3 then covQ l v else if k = 5 then [.mk k s l] :: covS l v (.mk k s l) else []
def covA : List Rx → List Int → List (List Rx)
  | [], _ => []
  | x :: l, v => covT x v ++ covA l v
def covQ : List Rx → List Int → List (List Rx)
  | [], _ => []
  | x :: l, v => (sufs v).flatMap (fun u => (cv x u (covT x u)).map (· ++ l)) ++ covQ l v
def covS : List Rx → List Int → Rx → List (List Rx)
  | [], _, _ => []
  | x :: _, v, r => (sufp v).flatMap fun u => (cv x u (covT x u)).map (· ++ [r])
end
structure Cov (x : Rx) : Prop where
  base : ∀ a ∈ als x, seqF a ∈ covT x []
  exp : ∀ v z, [z] ∈ covT x v → z.kind = 4 → ∀ a ∈ als z, seqF a ∈ covT x v
  step : ∀ v b L L', L ∈ covT x v → L' ∈ stp b L → L' ∈ covT x (v ++ [b])
  all : ∀ v a, a ∈ als (Dv x v) → seqF a ∈ covT x v
end Go.Wb

namespace Go.Wb
set_option linter.unusedVariables false
set_option linter.unusedSimpArgs false
open Go.Am Go.Wc
mutual
def wtR : Rx → Nat
  | .mk k _ l => if k = 3 ∨ k = 4 then wtS l else if k = 5 then 1 + wtS l else if k = 2 then 2 else 1
def wtS : List Rx → Nat
  | [] => 0
  | x :: l => wtR x + wtS l
end
inductive Shp : Rx → Prop
  | leaf {k : Int} {s : List Int} : k = 0 ∨ k = 1 ∨ k = 2 → Shp (.mk k s [])
  | star {x : Rx} : Shp x → Shp (.mk 5 [] [x])
  | pair {k : Int} {x y : Rx} : k = 3 ∨ k = 4 → Shp x → Shp y → Shp (.mk k [] [x, y])
def Top (n : Nat) (t : Rx) : Prop := t.kind ≠ 0 → wtS (seqF t) ≤ (seqF t).length + n
theorem puts_size : ∀ (l : List Rx) (s : List Int), (l.foldl putS s).length + Rx.sizes (l.filter fun x => !decide (x.kind = 0 ∨ x.kind = 2)) + (l.filter fun x => decide (x.kind = 2)).length ≤ s.length + Rx.sizes l
  | [], s => by simp [Rx.sizes]
  | x :: l, s => by
    have h := puts_size l (putS s x)
    have h1 := syms_len x
    rw [List.foldl_cons, Rx.sizes]
    by_cases h2 : x.kind = 2
    · rw [putS_2 h2, List.length_append] at h
      rw [List.filter_cons_of_neg (by simp [h2]), List.filter_cons_of_pos (by simp [h2]), List.length_cons, putS_2 h2]; omega
    · rw [putS_x h2] at h
      rw [List.filter_cons_of_neg (p := fun x : Rx => decide (x.kind = 2)) (by simp [h2]), putS_x h2]
      by_cases h0 : x.kind = 0
      · rw [List.filter_cons_of_neg (by simp [h0])]; omega
      · rw [List.filter_cons_of_pos (by simp [h0, h2]), Rx.sizes]; omega
theorem size_altM (l : List Rx) : Rx.sizes (altM (altS l) (altK l)) ≤ Rx.sizes (altL l) := by
  have h1 := puts_size (altL l) []
  rw [show (altL l).filter (fun x => !decide (x.kind = 0 ∨ x.kind = 2)) = altK l from (putKs_eq _).symm, show (altL l).foldl putS [] = altS l from rfl, List.length_nil] at h1
  by_cases h : 0 < (altS l).length
  · obtain ⟨z, hz⟩ := List.length_pos_iff_exists_mem.1 h
    obtain ⟨x, hx, hk, _⟩ := altS_mem.1 hz
    have h2 : 0 < ((altL l).filter fun x => decide (x.kind = 2)).length := List.length_pos_iff_exists_mem.2 ⟨x, List.mem_filter.2 ⟨hx, by simp [hk]⟩⟩
    have h3 := cpt_len (eq := eqI) (l := sortI (altS l))
    rw [sortI_len] at h3
    rw [altM_t h, sizes_append, Rx.sizes, Rx.sizes, Rx.size, Rx.sizes]; omega
  · rw [altM_f h]; omega
theorem size_altN' (l : List Rx) : (altN l).size ≤ 1 + Rx.sizes l := by
  have h1 := sizes_sublist (cptN_sub (eq := eqR) (l := sortR (altM (altS l) (altK l))) _ (Nat.le_refl _))
  rw [List.take_length] at h1
  have h2 : Rx.sizes (sortR (altM (altS l) (altK l))) = Rx.sizes (altM (altS l) (altK l)) := sizes_perm (isort_perm _)
  have h3 := size_altM l
  have h4 := sizes_altL l
  have h5 := sizes_altC (altD l)
  have h6 : Rx.sizes (altD l) = Rx.sizes (cptN eqR (sortR (altM (altS l) (altK l))) (sortR (altM (altS l) (altK l))).length) := rfl
  unfold altN altE
  split
  · rw [size_mk]; simp only [List.length_nil, Rx.sizes]; omega
  · split
    · have := size_mem (kid_mem (l := altC (altD l)) (i := 0) (by omega)); omega
    · rw [size_mk]; simp only [List.length_nil]; omega
theorem sizes_map_le1 {f : Rx → Rx} : ∀ {l : List Rx}, (∀ x ∈ l, (f x).size ≤ x.size) → Rx.sizes (l.map f) ≤ Rx.sizes l
  | [], _ => Nat.le_refl _
  | x :: l, h => by
    have h1 := sizes_map_le1 (l := l) fun y hy => h y (List.mem_cons_of_mem _ hy)
    have h2 := h x List.mem_cons_self
    rw [List.map_cons, Rx.sizes, Rx.sizes]; omega
theorem size_build' (t : Bool) (r : Rx) (hv : validR r = true) : (buildR t r).size ≤ r.size := by
  revert hv
  refine rx_ind (P := fun r => validR r = true → (buildR t r).size ≤ r.size) (fun r ih hv => ?_) r
  have hm := sizes_map_le1 (l := r.kids) fun x hx => ih x hx (valid_kids hv x hx)
  have e := size_eq r
  by_cases h3 : r.kind = 3
  · cases t with
    | false => rw [buildR_3f h3]; have := size_seqN (r.kids.map (buildR false)); omega
    | true => rw [buildR_3t h3]; have := size_seqN (r.kids.map (buildR true)).reverse; rw [sizes_rev] at this; omega
  · by_cases h4 : r.kind = 4
    · rw [buildR_4 h4]; have := size_altN' (r.kids.map (buildR t)); omega
    · by_cases h5 : r.kind = 5
      · rw [buildR_5 h5]
        have h6 := (valid_5 hv h5).2
        have := size_starN ((r.kids.map (buildR t)).getD 0 default)
        have := size_mem (kid_mem (l := r.kids.map (buildR t)) (i := 0) (by rw [List.length_map]; omega))
        omega
      · rw [buildR_x h3 h4 h5, size_mk]; simp only [Rx.sizes]; omega
end Go.Wb

namespace Go.Wb
set_option linter.unusedVariables false
set_option linter.unusedSimpArgs false
open Go.Am
mutual
def rder (a : Int) : Rx → Rx
  | .mk k s l => if k = 2 then (if a ∈ s then emptyRx else noneRx) else if k = 5 then .mk 3 [] [(rders a l).getD 0 default, .mk k s l] else if k ≤ 1 then noneRx else if k = 3 then .mk 4 [] (rderq a l) else .mk 4 [] (rders a l)
def rders (a : Int) : List Rx → List Rx
  | [] => []
  | x :: l => rder a x :: rders a l
def rderq (a : Int) : List Rx → List Rx
  | [] => []
  | x :: l => .mk 3 [] (rder a x :: l) :: (if accR x = true then rderq a l else [])
end
theorem rders_map (a : Int) : ∀ l : List Rx, rders a l = l.map (rder a)
  | [] => by rw [rders]; rfl
  | x :: l => by rw [rders, rders_map a l]; rfl
theorem rder_eq (a : Int) (r : Rx) : rder a r = if r.kind = 2 then (if a ∈ r.syms then emptyRx else noneRx) else if r.kind = 5 then .mk 3 [] [(r.kids.map (rder a)).getD 0 default, r] else if r.kind ≤ 1 then noneRx else
    if r.kind = 3 then .mk 4 [] (rderq a r.kids) else .mk 4 [] (r.kids.map (rder a)) := by
  cases r with | mk k s l => rw [rder, rders_map]; rfl
theorem rder_2y {a : Int} {r : Rx} (h : r.kind = 2) (hm : a ∈ r.syms) : rder a r = emptyRx := by rw [rder_eq, if_pos h, if_pos hm]
theorem rder_2n {a : Int} {r : Rx} (h : r.kind = 2) (hm : ¬ a ∈ r.syms) : rder a r = noneRx := by rw [rder_eq, if_pos h, if_neg hm]
theorem rder_5 {a : Int} {r : Rx} (h : r.kind = 5) (h0 : 0 < r.kids.length) : rder a r = .mk 3 [] [rder a (r.kids.getD 0 default), r] := by rw [rder_eq, if_neg (by omega), if_pos h, getD_map h0]
theorem rder_01 {a : Int} {r : Rx} (h : r.kind ≤ 1) : rder a r = noneRx := by rw [rder_eq, if_neg (by omega), if_neg (by omega), if_pos h]
def dvE (a : Int) (r : Rx) (i : Nat) : Rx := if r.kind = 3 then .mk 3 [] (rder a (r.kids.getD i default) :: r.kids.drop (i + 1)) else rder a (r.kids.getD i default)
def dvL (a : Int) (r : Rx) (i : Nat) : List Rx := (List.range i).map (dvE a r)
theorem dvL_succ (a : Int) (r : Rx) (i : Nat) : dvL a r (i + 1) = dvL a r i ++ [dvE a r i] := by unfold dvL; rw [List.range_succ, List.map_append]; rfl
theorem dvL_len (a : Int) (r : Rx) (i : Nat) : (dvL a r i).length = i := by unfold dvL; rw [List.length_map, List.length_range]
theorem dvE_3 {a : Int} {r : Rx} {i : Nat} (h : r.kind = 3) : dvE a r i = .mk 3 [] (rder a (r.kids.getD i default) :: r.kids.drop (i + 1)) := if_pos h
theorem dvE_x {a : Int} {r : Rx} {i : Nat} (h : ¬ r.kind = 3) : dvE a r i = rder a (r.kids.getD i default) := if_neg h
def bfR (r : Rx) (i : Nat) : Bool := if r.kind = 3 ∧ 0 < i then accR (r.kids.getD (i - 1) default) else true
theorem bfR_0 (r : Rx) : bfR r 0 = true := if_neg fun q => absurd q.2 (by decide)
theorem bfR_3 {r : Rx} {i : Nat} (h : r.kind = 3) : bfR r (i + 1) = accR (r.kids.getD i default) := if_pos ⟨h, Nat.succ_pos i⟩
theorem bfR_x {r : Rx} {i : Nat} (h : ¬ r.kind = 3) : bfR r i = true := if_neg fun q => h q.1
theorem rderq_upto {a : Int} {l : List Rx} : ∀ i, i ≤ l.length → (∀ j, j < i → accR (l.getD j default) = true) → rderq a l = (List.range i).map (fun j => .mk 3 [] (rder a (l.getD j default) :: l.drop (j + 1))) ++ rderq a (l.drop i)
  | 0, _, _ => by simp
  | i + 1, hi, h => by
    rw [rderq_upto i (by omega) fun j hj => h j (by omega), drop_cons (by omega), rderq, if_pos (h i (by omega)), List.range_succ, List.map_append, List.append_assoc]; rfl
theorem rder_end {a : Int} {r : Rx} {i : Nat} (h2 : ¬ r.kind = 2) (h5 : ¬ r.kind = 5) (h1 : ¬ r.kind ≤ 1) (hi : i ≤ r.kids.length) (hb : ∀ j, j < i → bfR r j = true) (he : r.kids.length ≤ i ∨ bfR r i = false) : rder a r = .mk 4 [] (dvL a r i) := by
  rw [rder_eq, if_neg h2, if_neg h5, if_neg h1]
  by_cases h3 : r.kind = 3
  · rw [if_pos h3]
    have hf : dvL a r i = (List.range i).map (fun j => .mk 3 [] (rder a (r.kids.getD j default) :: r.kids.drop (j + 1))) := by
      unfold dvL; exact List.map_congr_left fun j _ => dvE_3 h3
    rw [hf]
    have hacc : ∀ j, j + 1 < i → accR (r.kids.getD j default) = true := fun j hj => by rw [← bfR_3 h3]; exact hb (j + 1) hj
    rcases Nat.eq_zero_or_pos i with h0 | h0
    · subst h0
      rcases he with he | he
      · rw [List.eq_nil_of_length_eq_zero (l := r.kids) (by omega), rderq]; rfl
      · rw [bfR_0] at he; cases he
    · obtain ⟨k, rfl⟩ : ∃ k, i = k + 1 := ⟨i - 1, by omega⟩
      rw [rderq_upto k (by omega) fun j hj => hacc j (by omega), drop_cons (by omega), rderq, List.range_succ, List.map_append]
      have hz : (if accR (r.kids.getD k default) = true then rderq a (r.kids.drop (k + 1)) else []) = [] := by
        split
        · next hq =>
          rcases he with he | he
          · rw [List.drop_of_length_le (by omega), rderq]
          · rw [bfR_3 h3, hq] at he; cases he
        · rfl
      rw [hz]; rfl
  · rw [if_neg h3]
    have hf : dvL a r i = (List.range i).map (fun j => rder a (r.kids.getD j default)) := by
      unfold dvL; exact List.map_congr_left fun j _ => dvE_x h3
    have hl : i = r.kids.length := by
      rcases he with he | he
      · omega
      · rw [bfR_x h3] at he; cases he
    rw [hf, hl]
    congr 1
    refine List.ext_getElem (by simp) fun j h1 h2 => ?_
    rw [List.length_map] at h1
    simp [List.getD_eq_getElem?_getD, List.getElem?_eq_getElem h1]
theorem seqN_flat {y : Rx} {l : List Rx} (hn : ∀ x ∈ l, Nf x) : seqN (y :: l) = seqN [y, seqN l] := by
  unfold seqN
  by_cases hy : y.kind = 0
  · rw [if_pos (by rw [List.any_cons, decide_eq_true hy, Bool.true_or]), if_pos (by rw [List.any_cons, decide_eq_true hy, Bool.true_or])]
  · by_cases hl : l.any (fun x => decide (x.kind = 0)) = true
    · rw [if_pos (by rw [List.any_cons, hl, Bool.or_true]), if_pos hl, if_pos (by rw [List.any_cons, List.any_cons, decide_eq_true (show noneRx.kind = 0 from rfl), Bool.true_or, Bool.or_true])]
    · have h0 : (seqN l).kind ≠ 0 := by
        intro e
        unfold seqN at e; rw [if_neg hl] at e
        unfold seqE at e
        split at e
        · exact absurd e (by decide)
        · split at e
          · have hm : (seqL l).getD 0 default ∈ seqL l := kid_mem (by omega)
            obtain ⟨x, hx, hy⟩ := List.mem_flatMap.1 hm
            have hx0 : x.kind ≠ 0 := fun q => hl (List.any_eq_true.2 ⟨x, hx, decide_eq_true q⟩)
            exact (seqF_nf (hn x hx) hx0 hy).2.1 e
          · exact absurd e (by show ¬ (3 : Int) = 0; decide)
      have e1 := seqF_seqN hn h0
      unfold seqN at h0 e1
      rw [if_neg hl] at h0 e1 ⊢
      rw [if_neg (by rw [List.any_cons, decide_eq_false hy, Bool.false_or]; exact hl), if_neg (by rw [List.any_cons, List.any_cons, decide_eq_false hy, decide_eq_false h0]; decide)]
      show seqE (seqF y ++ seqL l) = seqE (seqF y ++ (seqF (seqE (seqL l)) ++ []))
      rw [List.append_nil, e1]
theorem valid_seq {l : List Rx} (h : ∀ x ∈ l, validR x = true) {k : Int} (hk : k = 3 ∨ k = 4) : validR (.mk k [] l) = true := by
  rw [validR_34 (r := .mk k [] l) hk]
  show (true && !(List.any _ _)) = true
  rw [Bool.true_and, Bool.not_eq_true', List.any_eq_false]
  exact fun x hx => by rw [h x hx]; decide
theorem rder_nf (a : Int) {x : Rx} (h : Nf x) : validR (rder a x) = true ∧ buildR false (rder a x) = dR a x := by
  induction h with
  | none => rw [rder_01 (by decide), dR_x (by decide) (fun h => by cases h), dL_x (by decide) (by decide), altN_nil]; exact ⟨nf_valid .none, build_id .none⟩
  | empty => rw [rder_01 (by decide), dR_x (by decide) (fun h => by cases h), dL_x (by decide) (by decide), altN_nil]; exact ⟨nf_valid .none, build_id .none⟩
  | @set s h =>
    rw [dR_eq, if_pos (show (Rx.mk 2 s []).kind = 2 from rfl)]
    split
    · next hm => rw [rder_2y rfl hm]; exact ⟨nf_valid .empty, build_id .empty⟩
    · next hm => rw [rder_2n rfl hm]; exact ⟨nf_valid .none, build_id .none⟩
  | @seq l h2 hn hk ih =>
    have hv : ∀ l : List Rx, (∀ x ∈ l, Nf x) → (∀ x ∈ l, validR (rder a x) = true ∧ buildR false (rder a x) = dR a x) → (∀ y ∈ rderq a l, validR y = true) ∧ (rderq a l).map (buildR false) = dRq a l := by
      intro l
      induction l with
      | nil => intro _ _; rw [rderq, dRq]; exact ⟨fun y hy => (by cases hy), rfl⟩
      | cons x l ihl =>
        intro hn ih
        have h1 := ihl (fun y hy => hn y (List.mem_cons_of_mem _ hy)) fun y hy => ih y (List.mem_cons_of_mem _ hy)
        have h2 := ih x List.mem_cons_self
        have h3 : validR (.mk 3 [] (rder a x :: l)) = true := valid_seq (fun y hy => by
          rcases List.mem_cons.1 hy with rfl | hy
          · exact h2.1
          · exact nf_valid (hn y (List.mem_cons_of_mem _ hy))) (.inl rfl)
        have h4 : buildR false (.mk 3 [] (rder a x :: l)) = seqN [dR a x, seqN l] := by
          rw [buildR_3f rfl]
          show seqN (buildR false (rder a x) :: l.map (buildR false)) = _
          rw [h2.2, map_self fun y hy => build_id (hn y (List.mem_cons_of_mem _ hy)), seqN_flat fun y hy => hn y (List.mem_cons_of_mem _ hy)]
        rw [rderq, dRq, List.map_cons, h4]
        refine ⟨fun y hy => ?_, ?_⟩
        · rcases List.mem_cons.1 hy with rfl | hy
          · exact h3
          · split at hy
            · exact h1.1 y hy
            · cases hy
        · split
          · rw [h1.2]
          · rfl
    have h1 := hv l hn ih
    rw [rder_eq, if_neg (by simp [Rx.kind]), if_neg (by simp [Rx.kind]), if_neg (by simp [Rx.kind]), if_pos (by simp [Rx.kind]), dR_x (by simp [Rx.kind]) (by simp [Rx.kind]), dL_3 rfl]
    refine ⟨valid_seq h1.1 (.inr rfl), ?_⟩
    rw [buildR_4 rfl]
    show altN ((rderq a l).map (buildR false)) = altN (dRq a l)
    rw [h1.2]
  | @alt l h2 hn hk h4 h5 h6 ih =>
    rw [rder_eq, if_neg (by simp [Rx.kind]), if_neg (by simp [Rx.kind]), if_neg (by simp [Rx.kind]), if_neg (by simp [Rx.kind]), dR_x (by simp [Rx.kind]) (by simp [Rx.kind]), dL_4 rfl]
    refine ⟨valid_seq (fun y hy => ?_) (.inr rfl), ?_⟩
    · obtain ⟨z, hz, rfl⟩ := List.mem_map.1 hy
      exact (ih z hz).1
    · rw [buildR_4 rfl]
      show altN ((l.map (rder a)).map (buildR false)) = altN (l.map (dR a))
      rw [List.map_map]
      congr 1
      exact List.map_congr_left fun y hy => (ih y hy).2
  | @star y hn hk h4 ih =>
    have hx := Nf.star hn hk h4
    rw [rder_5 rfl (by show 0 < 1; decide), dR_5k rfl (by show 0 < 1; decide)]
    refine ⟨valid_seq (fun z hz => ?_) (.inl rfl), ?_⟩
    · rcases List.mem_cons.1 hz with rfl | hz
      · exact ih.1
      · rw [List.mem_singleton.1 hz]; exact nf_valid hx
    · rw [buildR_3f rfl]
      show seqN [buildR false (rder a y), buildR false (.mk 5 [] [y])] = _
      rw [ih.2, build_id hx]; rfl
theorem rder_sim (a : Int) {x : Rx} (h : Nf x) : simR (rder a x) = dR a x := by
  have h1 := rder_nf a h
  unfold simR; rw [if_pos h1.1, h1.2]
theorem rder_size (a : Int) (r : Rx) : Nf r → (rder a r).size ≤ dSz r := by
  refine rx_ind (P := fun r => Nf r → (rder a r).size ≤ dSz r) (fun r ih hn => ?_) r
  have hs : ∀ l : List Rx, (∀ x ∈ l, (rder a x).size ≤ dSz x) → Rx.sizes (l.map (rder a)) ≤ dSzs l ∧ Rx.sizes (rderq a l) ≤ dSzq l := by
    intro l
    induction l with
    | nil => intro _; rw [rderq]; exact ⟨Nat.le_refl _, Nat.le_refl _⟩
    | cons x l ihl =>
      intro h
      have h1 := ihl fun y hy => h y (List.mem_cons_of_mem _ hy)
      have h2 := h x List.mem_cons_self
      rw [List.map_cons, Rx.sizes, dSzs, rderq, Rx.sizes, dSzq, size_mk, Rx.sizes, List.length_nil]
      refine ⟨by omega, ?_⟩
      split
      · omega
      · rw [show Rx.sizes [] = 0 from rfl]; omega
  have h1 := hs r.kids fun x hx => ih x hx (hn.kids hx)
  have hk := hn.kinds
  rw [rder_eq, dSz_eq]
  by_cases h2 : r.kind = 2
  · rw [if_pos h2, if_neg (show ¬ r.kind = 4 by omega), if_neg (show ¬ r.kind = 3 by omega), if_neg (show ¬ r.kind = 5 by omega)]
    split <;> rw [size_mk] <;> simp only [List.length_nil, Rx.sizes] <;> omega
  · rw [if_neg h2]
    by_cases h5 : r.kind = 5
    · rw [if_pos h5, if_neg (show ¬ r.kind = 4 by omega), if_neg (show ¬ r.kind = 3 by omega), if_pos h5, size_mk, Rx.sizes, Rx.sizes, List.length_nil, show Rx.sizes [] = 0 from rfl]
      obtain ⟨y, e, _⟩ := hn.k5 h5
      have := size_mem (kid_mem (l := r.kids.map (rder a)) (i := 0) (by rw [List.length_map, e]; exact Nat.one_pos)); omega
    · rw [if_neg h5]
      by_cases h1' : r.kind ≤ 1
      · rw [if_pos h1', if_neg (show ¬ r.kind = 4 by omega), if_neg (show ¬ r.kind = 3 by omega), if_neg h5, size_mk]; simp only [List.length_nil, Rx.sizes]; omega
      · rw [if_neg h1']
        by_cases h3 : r.kind = 3
        · rw [if_pos h3, if_neg (show ¬ r.kind = 4 by omega), if_pos h3, size_mk, List.length_nil]; omega
        · rw [if_neg h3, if_pos (show r.kind = 4 by omega), size_mk, List.length_nil]; omega
theorem set_len {s : List Int} (h : setOk s = true) : s.length ≤ 64 := by
  obtain ⟨h0, h1, h2⟩ := setOk_iff.1 h
  have h3 : ∀ k : Nat, k < s.length → (k : Int) ≤ s.getD k default := by
    intro k
    induction k with
    | zero => intro hk; have := (h2 _ (by rw [getD_el hk]; exact List.getElem_mem hk : s.getD 0 default ∈ s)).1; exact this
    | succ k ih =>
      intro hk
      have h4 := ih (by omega)
      have h5 := pair_getD h1 (i := k) (j := k + 1) (by omega) hk
      have h6 := of_decide_eq_true h5.1
      have h7 := h5.2
      omega
  have h4 := h3 (s.length - 1) (by omega)
  have h5 := (h2 _ (by rw [getD_el (by omega)]; exact List.getElem_mem (by omega) : s.getD (s.length - 1) default ∈ s)).2
  omega
theorem valid_own {k : Int} {s : List Int} {l : List Rx} (h : validR (.mk k s l) = true) : s.length ≤ 64 := by
  by_cases h2 : k = 2
  · rw [validR_2 (r := .mk k s l) h2, Bool.and_eq_true] at h
    exact set_len h.2
  · rw [validR_eq] at h
    split at h
    · cases h
    · split at h
      · next q => exact absurd q h2
      · split at h
        · cases h
        · next q =>
          have q' : ¬ 0 < s.length := fun e => q (.inl e)
          omega
mutual
theorem nodes_size (most : Int) : ∀ r : Rx, validR r = true → nodesV most r ≤ most → (r.size : Int) ≤ 65 * nodesV most r
  | .mk k s l, hv, h => by
    rw [nodesV] at h ⊢
    have h1 := valid_own hv
    have h2 := nodes_sizes most 1 (by omega) l (fun x hx => valid_kids hv x hx) h
    rw [Rx.size]; omega
theorem nodes_sizes (most n : Int) (hn : 1 ≤ n) : ∀ l : List Rx, (∀ x ∈ l, validR x = true) → nodesG most n l ≤ most → (Rx.sizes l : Int) + 65 * n ≤ 65 * nodesG most n l
  | [], _, _ => by rw [nodesG, Rx.sizes]; omega
  | x :: l, hv, h => by
    rw [nodesG] at h ⊢
    split at h
    · next q =>
      rw [if_pos q]
      have h1 := nodesV_bd most x
      have h2 := nodes_sizes most (n + nodesV most x) (by omega) l (fun y hy => hv y (List.mem_cons_of_mem _ hy)) h
      have h3 : nodesV most x ≤ most := by omega
      have h4 := nodes_size most x (hv x List.mem_cons_self) h3
      rw [Rx.sizes]; omega
    · next q => exact absurd h q
end
theorem sim_small {r : Rx} (h : nodesV 60 r ≤ 60) : (simR r).size ≤ 3900 := by
  unfold simR
  split
  · next hv =>
    have h1 := nodes_size 60 r hv h
    have h2 := size_build' false r hv
    omega
  · show 1 ≤ 3900; omega
end Go.Wb

namespace Go.Wb
set_option linter.unusedVariables false
set_option linter.unusedSimpArgs false
open Go.Am
mutual
def dZ : Rx → Nat
  | .mk k s l => if k = 4 then 2 + dZs l else if k = 3 then 2 + Zq l else if k = 5 then 2 + dZs l + (Rx.mk k s l).size else 2
def dZs : List Rx → Nat
  | [] => 0
  | x :: l => dZ x + dZs l
def Zq : List Rx → Nat
  | [] => 0
  | x :: l => 2 + dZ x + Rx.sizes l + Zq l
end
theorem Nf.kid {x y : Rx} (h : Nf x) (hy : y ∈ x.kids) : Nf y := by
  cases h with
  | none => cases hy
  | empty => cases hy
  | set h => cases hy
  | seq h1 h2 h3 => exact h2 y hy
  | alt h1 h2 h3 h4 h5 h6 => exact h2 y hy
  | star h1 h2 h3 => rw [List.mem_singleton.1 hy]; exact h1
def WW : List (List Rx) → Nat
  | [] => 0
  | L :: l => 2 + Zq L + WW l
def sumTo (g : Nat → Nat) : Nat → Nat
  | 0 => g 0
  | n + 1 => sumTo g n + g (n + 1)
def sumP (g : Nat → Nat) : Nat → Nat
  | 0 => 0
  | n + 1 => sumP g n + g (n + 1)
structure Tab (C N R : Nat) (f F s S a A g G : Nat → Nat → Nat) : Prop where
  fa : ∀ c, c ≤ C → ∀ n, n ≤ N → f c n ≤ a c n ∧ F c n ≤ A c n
  sa : ∀ c, c ≤ C → ∀ n, n ≤ N → s c n ≤ a c n ∧ S c n ≤ A c n
  ag : ∀ c, c ≤ C → ∀ n, n ≤ N → a c n ≤ g c n ∧ A c n ≤ G c n
  fg : ∀ c, c ≤ C → ∀ n, n ≤ N → sumTo (fun j => 1 + f c j) n ≤ g c n ∧ sumTo (fun j => 10 + 2 * F c j + (1 + f c j) * R) n ≤ G c n
  sg : ∀ c, c ≤ C → ∀ n, n ≤ N → sumTo (fun j => s c j) n ≤ g c n ∧ sumTo (fun j => S c j + s c j * R) n ≤ G c n
  st : ∀ c, 2 ≤ c → c < C → ∀ n, n ≤ N → 1 + sumP (fun j => 1 + f c j) n ≤ s (c + 1) n ∧ 2 + R + sumP (fun j => 10 + 2 * F c j + (1 + f c j) * R) n ≤ S (c + 1) n
  alt : ∀ c, 1 ≤ c → c ≤ C → ∀ d, 1 ≤ d → d ≤ C - c → ∀ n, n ≤ N → a c n + a d n ≤ f (c + d) n ∧ A c n + A d n ≤ F (c + d) n
  seq : ∀ c, 2 ≤ c → c ≤ C → ∀ d, 2 ≤ d → d ≤ C - c → ∀ n, n ≤ N → g c n + g d n ≤ f (c + d) n ∧ G c n + G d n ≤ F (c + d) n
section
variable {C N R Z : Nat} {f F s S a A g G : Nat → Nat → Nat}
def Bd (N : Nat) (f F s S : Nat → Nat → Nat) (x : Rx) : Prop := ∀ v : List Int, v.length ≤ N →
  (x.kind ≠ 5 → (covT x v).length ≤ f (wtR x) v.length ∧ WW (covT x v) ≤ F (wtR x) v.length) ∧ (x.kind = 5 → (covT x v).length ≤ s (wtR x) v.length ∧ WW (covT x v) ≤ S (wtR x) v.length)
end
end Go.Wb

