/-
  Plain functions: the given alphabets and words.
-/
import Derived.Test.YtgdehkimfmfofaaGreatJ20
import Derived.Test.YtgdehkimfmfofaaGreatJ19
import Derived.Test.YtgdehkimfmfofaaGreatJ7
set_option linter.unusedVariables false
set_option linter.unusedSimpArgs false
namespace Go.Wb
set_option linter.unusedVariables false
set_option linter.unusedSimpArgs false
open Go.Am
theorem sizes_rput (l : List Rx) (x : Rx) : Rx.sizes (rput l x) ≤ Rx.sizes l + x.size := by
  unfold rput
  split
  · omega
  · have := sizes_take_drop l (lbR x l)
    rw [sizes_append, sizes_append, Rx.sizes, Rx.sizes]; omega
theorem sizes_rOut : ∀ (L o : List Rx), Rx.sizes (L.foldl rOut1 o) ≤ Rx.sizes o + Rx.sizes L
  | [], o => by rw [List.foldl_nil, Rx.sizes]; omega
  | x :: L, o => by
    have h1 := sizes_rOut L (rOut1 o x)
    have h2 : Rx.sizes (rOut1 o x) ≤ Rx.sizes o + x.size := by
      have := sizes_rput o x
      unfold rOut1; split
      · omega
      · split <;> omega
    rw [List.foldl_cons, Rx.sizes]; omega
theorem sizes_out (L : List Rx) : Rx.sizes (rOut L) ≤ Rx.sizes L := by have := sizes_rOut L []; rw [show Rx.sizes [] = 0 from rfl, Nat.zero_add] at this; exact this
theorem rSyms_len (L : List Rx) (n : Nat) : (rSyms L n).length ≤ n := by
  unfold rSyms
  rw [List.length_map]
  exact Nat.le_trans (List.length_filter_le _ _) (by rw [List.length_range]; exact Nat.le_refl _)
theorem sizes_alt2 (L : List Rx) : Rx.sizes (rAlt2 L) ≤ Rx.sizes L + 65 := by
  have h1 := sizes_out L
  have h2 := sizes_rput (rOut L) (.mk 2 (rSyms L 64) [])
  have h3 := rSyms_len L 64
  rw [size_mk, Rx.sizes] at h2
  unfold rAlt2; split <;> omega
theorem sizes_alt3 (L : List Rx) : Rx.sizes (rAlt3 L) ≤ Rx.sizes L + 66 := by
  have h1 := sizes_alt2 L
  have h2 := sizes_rput (rAlt2 L) emptyRx
  rw [show (emptyRx).size = 1 from rfl] at h2
  unfold rAlt3; split <;> omega
section
variable {L : List Rx} {j k v : Nat}
theorem rOut_1 (h : j < L.length) (hk : (L.getD j default).kind = 1) : rOut (L.take (j + 1)) = rOut (L.take j) := by unfold rOut; rw [foldl_snoc h]; exact if_pos hk
theorem rOut_x (h : j < L.length) (hk : 2 < (L.getD j default).kind) : rOut (L.take (j + 1)) = rput (rOut (L.take j)) (L.getD j default) := by
  unfold rOut; rw [foldl_snoc h]; unfold rOut1; rw [if_neg (by omega), if_pos hk]
theorem rOut_0 (h : j < L.length) (hk : ¬ (L.getD j default).kind = 1) (h2 : ¬ 2 < (L.getD j default).kind) : rOut (L.take (j + 1)) = rOut (L.take j) := by
  unfold rOut; rw [foldl_snoc h]; unfold rOut1; rw [if_neg hk, if_neg h2]
theorem rOth_1 (h : j < L.length) (hk : (L.getD j default).kind = 1) : rOth (L.take (j + 1)) = rOth (L.take j) := by unfold rOth; rw [foldl_snoc h]; exact if_pos hk
theorem rOth_t (h : j < L.length) (hk : 2 < (L.getD j default).kind) (ho : rOth (L.take j) = true) : rOth (L.take (j + 1)) = true := by
  unfold rOth at ho ⊢; rw [foldl_snoc h, ho]; unfold rOth1; rw [if_neg (by omega), if_pos hk]; rfl
theorem rOth_f (h : j < L.length) (hk : 2 < (L.getD j default).kind) (ho : rOth (L.take j) = false) : rOth (L.take (j + 1)) = accR (L.getD j default) := by
  unfold rOth at ho ⊢; rw [foldl_snoc h, ho]; unfold rOth1; rw [if_neg (by omega), if_pos hk]; rfl
theorem rOth_0 (h : j < L.length) (hk : ¬ (L.getD j default).kind = 1) (h2 : ¬ 2 < (L.getD j default).kind) : rOth (L.take (j + 1)) = rOth (L.take j) := by
  unfold rOth; rw [foldl_snoc h]; unfold rOth1; rw [if_neg hk, if_neg h2]
theorem rEmp_1 (h : j < L.length) (hk : (L.getD j default).kind = 1) : rEmp (L.take (j + 1)) = true := by
  unfold rEmp; rw [take_succ' h, List.any_append, List.any_cons, decide_eq_true hk, Bool.true_or, Bool.or_true]
theorem rEmp_0 (h : j < L.length) (hk : ¬ (L.getD j default).kind = 1) : rEmp (L.take (j + 1)) = rEmp (L.take j) := by
  unfold rEmp; rw [take_succ' h, List.any_append, List.any_cons, decide_eq_false hk, List.any_nil, Bool.or_false, Bool.or_false]
def rIsAt (L : List Rx) (j k v : Nat) : Bool := rIs (L.take j) v || ((L.getD j default).syms.take k).any fun z => decide (z = (v : Int))
theorem rIsAt_0 : rIsAt L j 0 = rIs (L.take j) := by funext v; unfold rIsAt; simp
theorem rIs_next (h : j < L.length) (hk : (L.getD j default).syms.length ≤ k) : rIs (L.take (j + 1)) = rIsAt L j k := by
  funext v; unfold rIsAt; rw [List.take_of_length_le hk]
  show List.any _ _ = (List.any _ _ || _)
  rw [take_succ' h, List.any_append, List.any_cons, List.any_nil, Bool.or_false]
theorem rIsAt_succ (h : k < (L.getD j default).syms.length) (v : Nat) : rIsAt L j (k + 1) v = (rIsAt L j k v || decide ((L.getD j default).syms.getD k default = (v : Int))) := by
  unfold rIsAt; rw [take_succ' h, List.any_append, List.any_cons, List.any_nil, Bool.or_false, Bool.or_assoc]
def bCells (f : Nat → Bool) : List SV := (List.range 64).map fun v => .v .pl (bool (f v))
theorem bCells_len (f : Nat → Bool) : (bCells f).length = 64 := by unfold bCells; rw [List.length_map, List.length_range]
theorem bCells_get {f : Nat → Bool} (h : v < 64) : (bCells f)[v]? = some (.v .pl (bool (f v))) := by
  unfold bCells; rw [List.getElem?_map, List.getElem?_range h]; rfl
theorem bCells_at {f : Nat → Bool} (h : v < 64) : (bCells f)[0 + (v : Int).toNat]? = some (.v .pl (bool (f v))) := by
  rw [show 0 + (v : Int).toNat = v by omega]; exact bCells_get h
theorem bCells_keep (id : Nat) (f : Nat → Bool) : keepC id (bCells f) = bCells f := by
  unfold keepC bCells
  rw [List.map_map]
  rfl
theorem bCells_step (id : Nat) (h : k < (L.getD j default).syms.length) (hz : 0 ≤ (L.getD j default).syms.getD k default ∧ (L.getD j default).syms.getD k default < 64) :
    spl (keepC id (bCells (rIsAt L j k))) (0 + ((L.getD j default).syms.getD k default).toNat) [.v .pl (bool true)] = bCells (rIsAt L j (k + 1)) := by
  rw [bCells_keep]
  refine List.ext_getElem? fun n => ?_
  rw [spl_get (by rw [bCells_len]; simp only [List.length_singleton]; omega)]
  rcases Nat.lt_or_ge n 64 with hn | hn
  · rw [bCells_get hn, bCells_get hn, rIsAt_succ h]
    split
    · next q =>
      rw [List.length_singleton] at q
      have e : n = ((L.getD j default).syms.getD k default).toNat := by omega
      rw [show n - (0 + ((L.getD j default).syms.getD k default).toNat) = 0 by omega, decide_eq_true (show (L.getD j default).syms.getD k default = (n : Int) by omega), Bool.or_true]; rfl
    · next q =>
      rw [List.length_singleton] at q
      rw [decide_eq_false (show ¬ (L.getD j default).syms.getD k default = (n : Int) by omega), Bool.or_false]
  · rw [if_neg (by simp only [List.length_singleton]; omega), List.getElem?_eq_none (by rw [bCells_len]; exact hn), List.getElem?_eq_none (by rw [bCells_len]; exact hn)]
theorem rSyms_t (h : rIs L v = true) : rSyms L (v + 1) = rSyms L v ++ [(v : Int)] := by
  unfold rSyms; rw [List.range_succ, List.filter_append, List.filter_cons_of_pos h, List.map_append]; rfl
theorem rSyms_f (h : rIs L v = false) : rSyms L (v + 1) = rSyms L v := by
  unfold rSyms; rw [List.range_succ, List.filter_append, List.filter_cons_of_neg (by rw [h]; decide), List.filter_nil, List.append_nil]
theorem rAlt2_t (h : 0 < (rSyms L 64).length) : rAlt2 L = rput (rOut L) (.mk 2 (rSyms L 64) []) := if_pos h
theorem rAlt2_f (h : ¬ 0 < (rSyms L 64).length) : rAlt2 L = rOut L := if_neg h
theorem rAlt3_t (h : rEmp L = true) (h2 : rOth L = false) : rAlt3 L = rput (rAlt2 L) emptyRx := if_pos ⟨h, h2⟩
theorem rAlt3_e (h : rEmp L = false) : rAlt3 L = rAlt2 L := if_neg fun q => by rw [h] at q; cases q.1
theorem rAlt3_o (h : rOth L = true) : rAlt3 L = rAlt2 L := if_neg fun q => by rw [h] at q; cases q.2
end
end Go.Wb

namespace Go.Wb
set_option linter.unusedVariables false
set_option linter.unusedSimpArgs false
open Go.Am
def rStarB (x : Rx) : Rx := if x.kind = 4 then rAlt (x.kids.filter fun y => !decide (y.kind = 1)) else x
theorem rStarB_4 {x : Rx} (h : x.kind = 4) : rStarB x = rAlt (x.kids.filter fun y => !decide (y.kind = 1)) := if_pos h
theorem rStarB_x {x : Rx} (h : ¬ x.kind = 4) : rStarB x = x := if_neg h
theorem rStar_e {x : Rx} (h : x.kind = 0 ∨ x.kind = 1) : rStar x = emptyRx := if_pos h
theorem rStar_5 {x : Rx} (h : ¬ (x.kind = 0 ∨ x.kind = 1)) (h5 : x.kind = 5) : rStar x = x := by unfold rStar; rw [if_neg h, if_pos h5]
theorem rStar_x {x : Rx} (h : ¬ (x.kind = 0 ∨ x.kind = 1)) (h5 : ¬ x.kind = 5) : rStar x = .mk 5 [] [rStarB x] := by unfold rStar; rw [if_neg h, if_neg h5]; rfl
theorem filt_t {p : Rx → Bool} {l : List Rx} {i : Nat} (h : i < l.length) (hp : p (l.getD i default) = true) : (l.take (i + 1)).filter p = (l.take i).filter p ++ [l.getD i default] := by
  rw [take_succ' h, List.filter_append, List.filter_cons_of_pos hp]; rfl
theorem filt_f {p : Rx → Bool} {l : List Rx} {i : Nat} (h : i < l.length) (hp : p (l.getD i default) = false) : (l.take (i + 1)).filter p = (l.take i).filter p := by
  rw [take_succ' h, List.filter_append, List.filter_cons_of_neg (by rw [hp]; decide), List.filter_nil, List.append_nil]
abbrev no1 (y : Rx) : Bool := !decide (y.kind = 1)
theorem no1_t {y : Rx} (h : ¬ y.kind = 1) : no1 y = true := by simp [h]
theorem no1_f {y : Rx} (h : y.kind = 1) : no1 y = false := by simp [h]
theorem sizes_filter (p : Rx → Bool) (l : List Rx) : Rx.sizes (l.filter p) ≤ Rx.sizes l := sizes_sublist List.filter_sublist
theorem Nf.kids {x y : Rx} (h : Nf x) (hy : y ∈ x.kids) : Nf y := by
  cases h with
  | none => cases hy
  | empty => cases hy
  | set h => cases hy
  | seq h1 h2 h3 => exact h2 y hy
  | alt h1 h2 h3 h4 h5 h6 => exact h2 y hy
  | star h1 h2 h3 => rw [List.mem_singleton.1 hy]; exact h1
def nrL (t : Bool) (r : Rx) : List Rx := if t = true ∧ r.kind = 3 then (r.kids.map (buildR t)).reverse else r.kids.map (buildR t)
theorem nrL_len (t : Bool) (r : Rx) : (nrL t r).length = r.kids.length := by unfold nrL; split <;> simp
theorem nrL_t {t : Bool} {r : Rx} {i k : Nat} (ht : t = true) (h3 : r.kind = 3) (hi : i < r.kids.length) (hk : (k : Int) = (r.kids.length : Int) - 1 - i) : (nrL t r).getD i default = buildR t (r.kids.getD k default) := by
  unfold nrL
  rw [if_pos ⟨ht, h3⟩, List.getD_eq_getElem?_getD, List.getElem?_reverse (by rw [List.length_map]; exact hi), List.length_map, List.getElem?_map, ← show k = r.kids.length - 1 - i by omega, List.getElem?_eq_getElem (show k < r.kids.length by omega), Option.map_some, Option.getD_some, getD_el (by omega)]
theorem nrL_f {t : Bool} {r : Rx} {i : Nat} (h : ¬ (t = true ∧ r.kind = 3)) (hi : i < r.kids.length) : (nrL t r).getD i default = buildR t (r.kids.getD i default) := by
  unfold nrL; rw [if_neg h, getD_map hi]
theorem nrL_sizes (t : Bool) (r : Rx) : Rx.sizes (nrL t r) ≤ 2 * Rx.sizes r.kids := by
  have := sizes_build t r.kids
  unfold nrL; split
  · rw [sizes_rev]; exact this
  · exact this
theorem nrL_nf {t : Bool} {r : Rx} (hv : validR r = true) : ∀ x ∈ nrL t r, Nf x := fun x hx => by
  have : x ∈ r.kids.map (buildR t) := by
    unfold nrL at hx; split at hx
    · exact List.mem_reverse.1 hx
    · exact hx
  obtain ⟨y, hy, rfl⟩ := List.mem_map.1 this
  exact build_nf t y (valid_kids hv y hy)
theorem nr_3 {t : Bool} {r : Rx} (h : r.kind = 3) : buildR t r = seqN (nrL t r) := by
  unfold nrL
  cases t with
  | true => rw [if_pos ⟨rfl, h⟩]; exact buildR_3t h
  | false => rw [if_neg (fun q => by cases q.1)]; exact buildR_3f h
theorem nr_4 {t : Bool} {r : Rx} (hv : validR r = true) (h : r.kind = 4) : buildR t r = rAlt (nrL t r) := by
  rw [rAlt_eq (nrL_nf hv)]; unfold nrL; rw [if_neg fun q => by omega]; exact buildR_4 h
theorem nr_5 {t : Bool} {r : Rx} (hv : validR r = true) (h : r.kind = 5) : buildR t r = rStar ((nrL t r).getD 0 default) := by
  have hl := (valid_5 hv h).2
  rw [rStar_eq (nrL_nf hv _ (kid_mem (by rw [nrL_len]; omega)))]; unfold nrL; rw [if_neg fun q => by omega]; exact buildR_5 h
theorem nr_x {t : Bool} {r : Rx} (hv : validR r = true) (h3 : ¬ r.kind = 3) (h4 : ¬ r.kind = 4) (h5 : ¬ r.kind = 5) : buildR t r = r := by
  rw [buildR_x h3 h4 h5]
  have hk := valid_kinds hv
  have : r.kids = [] := by
    by_cases h2 : r.kind = 2
    · rw [validR_2 h2, Bool.and_eq_true] at hv
      exact List.eq_nil_of_length_eq_zero (of_decide_eq_true hv.1)
    · rw [validR_01 (by omega), Bool.and_eq_true] at hv
      exact List.eq_nil_of_length_eq_zero (of_decide_eq_true hv.2)
  rw [← this, ← Rx.eta]
end Go.Wb

namespace Go.Wb
set_option linter.unusedVariables false
set_option linter.unusedSimpArgs false
open Go.Am Go.Wc
theorem preB_t {s t : List UInt8} (h : t.length ≤ s.length) : preB s t = decide (s.take t.length = t) := by unfold preB; rw [decide_eq_true h, Bool.true_and]
theorem preB_f {s t : List UInt8} (h : ¬ t.length ≤ s.length) : preB s t = false := by unfold preB; rw [decide_eq_false h, Bool.false_and]
def oneB (a : List Letter) (r : Rx) : Bool := decide (r.kind = 2) && (decide (r.syms.length = 1) && decide (r.syms.getD 0 default < a.length))
theorem oneB_bare {a : List Letter} {r : Rx} (h : Nf r) : oneB a r = decide (0 ≤ bareR a r) := by
  unfold oneB bareR
  by_cases h1 : r.kind = 2
  · by_cases h2 : r.syms.length = 1
    · by_cases h3 : r.syms.getD 0 default < a.length
      · have h4 := (setOk_iff.1 (h.k2 h1).2).2.2 (r.syms.getD 0 default) (by rw [getD_el (by omega)]; exact List.getElem_mem (by omega))
        rw [if_pos ⟨h1, h2, h3⟩, decide_eq_true h1, decide_eq_true h2, decide_eq_true h3, decide_eq_true h4.1]; rfl
      · rw [if_neg (fun q => h3 q.2.2), decide_eq_false h3, Bool.and_false, Bool.and_false]; rfl
    · rw [if_neg (fun q => h2 q.2.1), decide_eq_false h2, Bool.false_and, Bool.and_false]; rfl
  · rw [if_neg (fun q => h1 q.1), decide_eq_false h1, Bool.false_and]; rfl
theorem oneB_t {a : List Letter} {r : Rx} (h : Nf r) (ho : oneB a r = true) : 0 ≤ bareR a r ∧ bareR a r = r.syms.getD 0 default ∧ 0 < r.syms.length ∧ bareR a r < a.length := by
  have h1 := oneB_bare (a := a) h
  rw [ho] at h1
  have h2 := of_decide_eq_true h1.symm
  unfold bareR at h2 ⊢
  split at h2
  · next q => rw [if_pos q]; exact ⟨h2, rfl, by omega, q.2.2⟩
  · omega
theorem knownR_all {a : List Letter} {r : Rx} (h : ∀ i, i < r.syms.length → symK a (r.syms.getD i default) = true) (h2 : ∀ k, k < r.kids.length → knownR a (r.kids.getD k default) = true) : knownR a r = true := by
  rw [knownR_yes h, any_no (p := fun x => !knownR a x) (l := r.kids) fun k hk => by show (!knownR a _) = false; rw [h2 k hk]; rfl]; rfl
theorem knownR_kid {a : List Letter} {r : Rx} {j : Nat} (hj : j < r.kids.length) (h2 : knownR a (r.kids.getD j default) = false) : knownR a r = false := by
  rw [knownR_eq]
  have : r.kids.all (knownR a) = false := by rw [List.all_eq_false]; exact ⟨_, kid_mem hj, by rw [h2]; decide⟩
  rw [this, Bool.and_false]
def lngB (a : List Letter) (n : Int) : Bool := (List.range a.length).any fun i => !decide ((i : Int) = n) && preB (a.getD i default).text (a.getD n.toNat default).text
theorem lngB_hit {a : List Letter} {n : Int} {i : Nat} (hi : i < a.length) (h : ¬ (i : Int) = n) (hp : preB (a.getD i default).text (a.getD n.toNat default).text = true) : lngB a n = true := by
  unfold lngB; rw [List.any_eq_true]; exact ⟨i, List.mem_range.2 hi, by rw [decide_eq_false h, hp]; rfl⟩
theorem lngB_no {a : List Letter} {n : Int} {i : Nat} (hi : a.length ≤ i) (h : ∀ j : Nat, j < i → (j : Int) = n ∨ preB (a.getD j default).text (a.getD n.toNat default).text = false) : lngB a n = false := by
  unfold lngB; rw [List.any_eq_false]
  intro j hj
  have hj := List.mem_range.1 hj
  rcases h j (by omega) with q | q
  · rw [decide_eq_true q, Bool.not_true, Bool.false_and]; decide
  · rw [q, Bool.and_false]; decide
theorem texts_apart {a : List Letter} (ha : validA a = true) {i j : Nat} (hi : i < a.length) (hj : j < a.length) (h : i ≠ j) : (a.getD i default).text ≠ (a.getD j default).text := by
  have h1 := (of_decide_eq_true (p := validP a) ha).2
  rcases Nat.lt_or_gt_of_ne h with q | q
  · exact (h1 j hj).2.2 i q
  · exact fun e => (h1 i hi).2.2 j q e.symm
theorem lngB_long {a : List Letter} (ha : validA a = true) {n : Int} (h0 : 0 ≤ n) (hn : n < a.length) : lngB a n = longR a n := by
  have hn' : n.toNat < a.length := by omega
  rw [long_is h0, Bool.eq_iff_iff, List.any_eq_true, lngB, List.any_eq_true]
  constructor
  · rintro ⟨i, hi, h⟩
    have hi := List.mem_range.1 hi
    rw [Bool.and_eq_true, Bool.not_eq_true', decide_eq_false_iff_not] at h
    refine ⟨a.getD i default, by rw [getD_el hi]; exact List.getElem_mem hi, ?_⟩
    rw [h.2, Bool.and_true, decide_eq_true_eq]
    have h1 := h.2
    unfold preB at h1
    rw [Bool.and_eq_true, decide_eq_true_eq, decide_eq_true_eq] at h1
    rcases Nat.lt_or_eq_of_le h1.1 with q | q
    · exact q
    · have h2 := h1.2
      rw [q, List.take_length] at h2
      exact absurd h2 (texts_apart ha hi hn' (by omega))
  · rintro ⟨y, hy, h⟩
    obtain ⟨i, hi, rfl⟩ := List.getElem_of_mem hy
    rw [Bool.and_eq_true, decide_eq_true_eq] at h
    refine ⟨i, List.mem_range.2 hi, ?_⟩
    have h1 : ¬ (i : Int) = n := fun e => by
      have : n.toNat = i := by omega
      rw [this, getD_el hi] at h
      omega
    rw [decide_eq_false h1, getD_el hi, h.2]; rfl
theorem joinB_nil : joinB [] = [] := rfl
theorem joinB_snoc {l : List (List UInt8)} {i : Nat} (h : i < l.length) : joinB (l.take (i + 1)) = (if 0 < i then joinB (l.take i) ++ [124] else joinB (l.take i)) ++ l.getD i default := by
  have key : ∀ (l : List (List UInt8)) (x : List UInt8), l ≠ [] → joinB (l ++ [x]) = joinB l ++ [124] ++ x := by
    intro l
    induction l with
    | nil => intro x h; exact absurd rfl h
    | cons y l ih =>
      intro x _
      match l, ih with
      | [], _ => unfold joinB Lib.join List.intercalate; simp [List.intersperse]
      | z :: l, ih =>
        have e : ∀ m : List (List UInt8), joinB (y :: z :: m) = y ++ [124] ++ joinB (z :: m) := fun m => by unfold joinB Lib.join List.intercalate; simp [List.intersperse]
        have h1 := ih x (by simp)
        rw [List.cons_append, List.cons_append, e, e, ← List.cons_append, h1]; simp only [List.append_assoc]
  rw [take_succ' h]
  by_cases h0 : 0 < i
  · rw [if_pos h0, key _ _ (by intro e; have := congrArg List.length e; rw [List.length_take, List.length_nil] at this; omega)]
  · rw [if_neg h0, show i = 0 by omega, List.take_zero, List.nil_append, joinB_nil, List.nil_append]
    unfold joinB Lib.join List.intercalate; simp
def symsT (a : List Letter) (s : List Int) (i : Nat) : List UInt8 := joinB ((s.map (letterT a)).take i)
theorem symsT_succ {a : List Letter} {s : List Int} {i : Nat} (h : i < s.length) : symsT a s (i + 1) = (if 0 < i then symsT a s i ++ [124] else symsT a s i) ++ letterT a (s.getD i default) := by
  unfold symsT
  rw [joinB_snoc (by rw [List.length_map]; exact h), getD_map h]
theorem symsT_all {a : List Letter} {s : List Int} {i : Nat} (h : s.length ≤ i) : symsT a s i = joinB (s.map (letterT a)) := by unfold symsT; rw [List.take_of_length_le (by rw [List.length_map]; exact h)]
theorem symsT_len {a : List Letter} (hT : ∀ x ∈ a, x.text.length ≤ 4) (s : List Int) (i : Nat) : (symsT a s i).length ≤ s.length * 5 := by
  have h1 := join_len (l := (s.map (letterT a)).take i) (n := 4) fun x hx => by
    obtain ⟨y, _, rfl⟩ := List.mem_map.1 (List.mem_of_mem_take hx); exact letter_len hT y
  have h2 : ((s.map (letterT a)).take i).length ≤ s.length := by rw [List.length_take, List.length_map]; omega
  exact Nat.le_trans h1 (Nat.mul_le_mul_right _ h2)
theorem sets_one {a : List Letter} {s : List Int} (h : s.length = 1) : joinB (s.map (letterT a)) = letterT a (s.getD 0 default) := by
  obtain ⟨z, rfl⟩ := List.length_eq_one_iff.1 h
  show List.intercalate [124] [letterT a z] = _
  simp [List.intercalate]
def pcT (a : List Letter) (r : Rx) (i : Nat) : List UInt8 :=
  if r.kind = 3 then pieceT a (prevB a r.kids i) (r.kids.getD i default) (textR a (r.kids.getD i default)) (((r.kids.getD i default).kids.map (textR a)).getD 0 default)
  else if r.kind = 5 then partT (r.kids.getD i default) true (textR a (r.kids.getD i default)) else textR a (r.kids.getD i default)
def accT (a : List Letter) (r : Rx) (i : Nat) : List UInt8 := if r.kind = 4 then joinB ((r.kids.map (textR a)).take i) else (List.range i).flatMap (pcT a r)
def sepT (a : List Letter) (r : Rx) (i : Nat) : List UInt8 := if r.kind = 4 ∧ 0 < i then accT a r i ++ [124] else accT a r i
theorem accT_0 (a : List Letter) (r : Rx) : accT a r 0 = [] := by unfold accT; split <;> rfl
theorem accT_succ {a : List Letter} {r : Rx} {i : Nat} (h : i < r.kids.length) : accT a r (i + 1) = sepT a r i ++ pcT a r i := by
  unfold sepT accT
  by_cases h4 : r.kind = 4
  · rw [if_pos h4, if_pos h4, joinB_snoc (by rw [List.length_map]; exact h), getD_map h]
    have hp : pcT a r i = textR a (r.kids.getD i default) := by unfold pcT; rw [if_neg (by omega), if_neg (by omega)]
    rw [hp]
    by_cases h0 : 0 < i
    · rw [if_pos h0, if_pos ⟨h4, h0⟩]
    · rw [if_neg h0, if_neg fun q => h0 q.2]
  · rw [if_neg h4, if_neg h4, if_neg fun q => h4 q.1, List.range_succ, List.flatMap_append]; simp
theorem sepT_y {a : List Letter} {r : Rx} {i : Nat} (h : r.kind = 4) (h0 : 0 < i) : sepT a r i = accT a r i ++ [124] := if_pos ⟨h, h0⟩
theorem sepT_n {a : List Letter} {r : Rx} {i : Nat} (h : ¬ (r.kind = 4 ∧ 0 < i)) : sepT a r i = accT a r i := if_neg h
theorem accT_3 {a : List Letter} {r : Rx} (h : r.kind = 3) : ∀ i, i ≤ r.kids.length → accT a r i ++ textQ a (prevB a r.kids i) (r.kids.drop i) = textR a r
  | 0, _ => by rw [accT_0, textR_3 h]; rfl
  | i + 1, hi => by
    have ih := accT_3 (a := a) h i (by omega)
    rw [accT_succ (by omega), sepT_n (fun q => by omega), ← ih, textQ_step (show i < r.kids.length by omega), List.append_assoc]
    unfold pcT; rw [if_pos h]
theorem accT_end {a : List Letter} {r : Rx} {i : Nat} (hn : Nf r) (hi : r.kids.length ≤ i) (hi2 : i ≤ r.kids.length) (h0 : ¬ r.kind = 0) (h2 : ¬ r.kind = 2) : textR a r = if r.kind = 5 then accT a r i ++ [42] else accT a r i := by
  have e : i = r.kids.length := by omega
  have hk := hn.kinds
  by_cases h3 : r.kind = 3
  · rw [if_neg (by omega), ← accT_3 h3 i hi2, textQ_end hi, List.append_nil]
  · by_cases h4 : r.kind = 4
    · rw [if_neg (by omega), textR_4 h4]; unfold accT; rw [if_pos h4, List.take_of_length_le (by rw [List.length_map]; exact hi)]
    · by_cases h5 : r.kind = 5
      · obtain ⟨y, ey, _⟩ := hn.k5 h5
        have hl : r.kids.length = 1 := by rw [ey]; rfl
        rw [if_pos h5, textR_5 h5 (by omega), e, hl]
        unfold accT; rw [if_neg h4]
        show _ = pcT a r 0 ++ [] ++ [42]
        rw [List.append_nil]
        unfold pcT; rw [if_neg h3, if_pos h5]
      · have h1 : r.kind = 1 := by omega
        have hl : r.kids.length = 0 := by rw [hn.k1 h1]; rfl
        rw [if_neg h5, textR_1 h1, e, hl, accT_0]
def aptB (a : List Letter) (r : Rx) (i : Nat) : Bool := if r.kind = 3 ∧ 0 < i then longR a (prevB a r.kids i) else false
theorem prevB_s {a : List Letter} {l : List Rx} {i : Nat} (h : 0 < i) : prevB a l i = bareR a (l.getD (i - 1) default) := if_pos h
theorem aptB_n {a : List Letter} {r : Rx} {i : Nat} (h : ¬ (r.kind = 3 ∧ 0 < i)) : aptB a r i = false := if_neg h
theorem aptB_f {a : List Letter} {r : Rx} {i : Nat} (h : r.kind = 3) (h0 : 0 < i) (hn : Nf (r.kids.getD (i - 1) default)) (ho : oneB a (r.kids.getD (i - 1) default) = false) : aptB a r i = false := by
  unfold aptB; rw [if_pos ⟨h, h0⟩, prevB_s h0]
  rw [oneB_bare hn] at ho
  exact long_no (of_decide_eq_false ho)
theorem aptB_t {a : List Letter} {r : Rx} {i : Nat} (ha : validA a = true) (h : r.kind = 3) (h0 : 0 < i) (hn : Nf (r.kids.getD (i - 1) default)) (ho : oneB a (r.kids.getD (i - 1) default) = true) : aptB a r i = lngB a ((r.kids.getD (i - 1) default).syms.getD 0 default) := by
  unfold aptB; rw [if_pos ⟨h, h0⟩, prevB_s h0]
  obtain ⟨h1, h2, h3, h4⟩ := oneB_t hn ho
  rw [← h2, lngB_long ha h1 h4]
section
variable {a : List Letter} {r : Rx} {i : Nat}
theorem apt_3 (h : aptB a r i = true) : r.kind = 3 ∧ longR a (prevB a r.kids i) = true := by
  unfold aptB at h; split at h
  · next q => exact ⟨q.1, h⟩
  · cases h
theorem pc_star1 (h : aptB a r i = true) (h5 : (r.kids.getD i default).kind = 5) (h0 : 0 < (r.kids.getD i default).kids.length) (hk : Nf ((r.kids.getD i default).kids.getD 0 default)) (ho : oneB a ((r.kids.getD i default).kids.getD 0 default) = true) :
    pcT a r i = [40] ++ textR a ((r.kids.getD i default).kids.getD 0 default) ++ [41, 42] := by
  obtain ⟨h3, hl⟩ := apt_3 h
  rw [oneB_bare hk] at ho
  have hb : ¬ 0 ≤ bareR a (r.kids.getD i default) := by unfold bareR; rw [if_neg fun q => by omega]; omega
  unfold pcT; rw [if_pos h3, piece_2 hl hb h5 (of_decide_eq_true ho), getD_map h0]
theorem pc_star0 (h : aptB a r i = true) (h5 : (r.kids.getD i default).kind = 5) (hk : Nf ((r.kids.getD i default).kids.getD 0 default)) (ho : oneB a ((r.kids.getD i default).kids.getD 0 default) = false) :
    pcT a r i = textR a (r.kids.getD i default) := by
  obtain ⟨h3, hl⟩ := apt_3 h
  rw [oneB_bare hk] at ho
  have hb : ¬ 0 ≤ bareR a (r.kids.getD i default) := by unfold bareR; rw [if_neg fun q => by omega]; omega
  unfold pcT; rw [if_pos h3, piece_3 (fun q => hb q.2) (fun q => of_decide_eq_false ho q.2.2)]; unfold partT; rw [if_neg fun q => q.elim (fun e => by omega) fun e => by omega]
theorem pc_par1 (h : aptB a r i = true) (hk : Nf (r.kids.getD i default)) (ho : oneB a (r.kids.getD i default) = true) : pcT a r i = [40] ++ textR a (r.kids.getD i default) ++ [41] := by
  obtain ⟨h3, hl⟩ := apt_3 h
  rw [oneB_bare hk] at ho
  unfold pcT; rw [if_pos h3, piece_1 hl (of_decide_eq_true ho)]
theorem pc_other (h : ¬ (aptB a r i = true ∧ oneB a (r.kids.getD i default) = true)) (h' : ¬ (aptB a r i = true ∧ (r.kids.getD i default).kind = 5)) (hk : Nf (r.kids.getD i default)) (hi : r.kind = 3 → i = 0 ∨ 0 < i) :
    pcT a r i = if (r.kind = 3 ∨ r.kind = 5) ∧ (r.kids.getD i default).kind = 4 ∨ (r.kind = 5 ∧ (r.kids.getD i default).kind = 3) then [40] ++ textR a (r.kids.getD i default) ++ [41] else textR a (r.kids.getD i default) := by
  unfold pcT
  by_cases h3 : r.kind = 3
  · have e : aptB a r i = longR a (prevB a r.kids i) := by
      unfold aptB
      by_cases h0 : 0 < i
      · rw [if_pos ⟨h3, h0⟩]
      · rw [if_neg fun q => h0 q.2]
        unfold prevB; rw [if_neg h0]; rfl
    rw [e, oneB_bare hk, decide_eq_true_eq] at h
    rw [e] at h'
    rw [if_pos h3, piece_3 h fun q => h' ⟨q.1, q.2.1⟩]
    unfold partT
    by_cases q : (r.kids.getD i default).kind = 4
    · rw [if_pos (.inl q), if_pos (.inl ⟨.inl h3, q⟩)]
    · rw [if_neg (fun p => p.elim q fun p => (by cases p.2)), if_neg (by omega)]
  · rw [if_neg h3]
    by_cases h5 : r.kind = 5
    · rw [if_pos h5]
      unfold partT
      by_cases q : (r.kids.getD i default).kind = 4 ∨ (r.kids.getD i default).kind = 3
      · rw [if_pos (q.imp id fun q => ⟨q, rfl⟩), if_pos (by omega)]
      · rw [if_neg (by omega), if_neg (by omega)]
    · rw [if_neg h5, if_neg (by omega)]
end
theorem accT_len {a : List Letter} (hT : ∀ x ∈ a, x.text.length ≤ 4) {r : Rx} (hn : Nf r) : ∀ i, i ≤ r.kids.length → (accT a r i).length ≤ 8 * Rx.sizes (r.kids.take i) + i * 16
  | 0, _ => by rw [accT_0]; exact Nat.zero_le _
  | i + 1, hi => by
    have ih := accT_len hT hn i (by omega)
    have h1 := text_len hT (r.kids.getD i default)
    have h2 : Rx.sizes (r.kids.take (i + 1)) = Rx.sizes (r.kids.take i) + (r.kids.getD i default).size := by rw [take_succ' (by omega), sizes_append, Rx.sizes, Rx.sizes]; rfl
    have h3 : (sepT a r i).length ≤ (accT a r i).length + 1 := by unfold sepT; split <;> simp
    have h5 : ((((r.kids.getD i default).kids.map (textR a)).getD 0 default)).length + 3 ≤ 8 * (r.kids.getD i default).size := by
      by_cases h0 : 0 < (r.kids.getD i default).kids.length
      · rw [getD_map h0]
        have := text_len hT ((r.kids.getD i default).kids.getD 0 default)
        have := kid_lt h0
        omega
      · rw [List.eq_nil_of_length_eq_zero (l := (r.kids.getD i default).kids) (by omega)]
        have := size_pos (r.kids.getD i default)
        show 0 + 3 ≤ _; omega
    have h4 : (pcT a r i).length ≤ 8 * (r.kids.getD i default).size := by
      unfold pcT; split
      · exact piece_len h1 h5
      · split
        · have := part_len (r.kids.getD i default) true (textR a (r.kids.getD i default)); omega
        · omega
    rw [accT_succ (by omega), List.length_append, h2, Nat.add_mul]; omega
theorem sepT_len (a : List Letter) (r : Rx) (i : Nat) : (sepT a r i).length ≤ (accT a r i).length + 1 := by unfold sepT; split <;> simp
theorem accT_bd {a : List Letter} (hT : ∀ x ∈ a, x.text.length ≤ 4) {r : Rx} (hn : Nf r) {i : Nat} (hi : i ≤ r.kids.length) : (accT a r i).length ≤ 24 * r.size := by
  have h1 := accT_len hT hn i hi
  have h2 := sizes_take_le r.kids i
  have h3 := size_eq r
  have h4 := kids_len r
  omega
theorem pcT_len {a : List Letter} (hT : ∀ x ∈ a, x.text.length ≤ 4) (r : Rx) (i : Nat) : (pcT a r i).length ≤ 8 * (r.kids.getD i default).size := by
  have h1 := text_len hT (r.kids.getD i default)
  have h5 : ((((r.kids.getD i default).kids.map (textR a)).getD 0 default)).length + 3 ≤ 8 * (r.kids.getD i default).size := by
    by_cases h0 : 0 < (r.kids.getD i default).kids.length
    · rw [getD_map h0]
      have := text_len hT ((r.kids.getD i default).kids.getD 0 default)
      have := kid_lt h0
      omega
    · rw [List.eq_nil_of_length_eq_zero (l := (r.kids.getD i default).kids) (by omega)]
      have := size_pos (r.kids.getD i default)
      show 0 + 3 ≤ _; omega
  unfold pcT; split
  · exact piece_len h1 h5
  · split
    · have := part_len (r.kids.getD i default) true (textR a (r.kids.getD i default)); omega
    · omega
end Go.Wb

namespace Go.Wc
open Go.Am
abbrev poolL : List (List UInt8) := [[97], [98], [99], [101], [105], [110], [115], [116], [99, 104], [195, 169], [65], [115, 99, 104], [104], [108], [195, 182], [117]]
def atV (l : List Int) (i most : Int) : Int := atL l i most
def letter0 (l : List Int) (start : Int) (i : Nat) : Letter := ⟨poolL.getD ((start + i) % 16).toNat default, i, 0, 0, 1 + atL l (2 + i) 9⟩
def letterI (l : List Int) (start : Int) (a : List Letter) (i : Nat) : Letter :=
  if 0 < i ∧ atL l (10 + i) 3 = 1 then { letter0 l start i with base := (a.getD (atL l (20 + i) i).toNat default).base, mark := atL l (30 + i) 4, cap := atL l (40 + i) 2 } else letter0 l start i
def lettersN (l : List Int) (start : Int) : Nat → List Letter
  | 0 => []
  | i + 1 => lettersN l start i ++ [letterI l start (lettersN l start i) i]
def lettersP (l : List Int) : List Letter := lettersN l (atL l 1 16) (3 + atL l 0 6).toNat
theorem lettersN_len (l : List Int) (start : Int) : ∀ i, (lettersN l start i).length = i
  | 0 => rfl
  | i + 1 => by simp [lettersN, lettersN_len l start i]
abbrev smallP : List Letter := [⟨[97], 0, 0, 0, 5⟩, ⟨[98], 1, 0, 0, 6⟩, ⟨[99], 2, 0, 0, 5⟩, ⟨[101], 3, 0, 0, 5⟩, ⟨[110], 4, 0, 0, 6⟩, ⟨[115], 5, 0, 0, 4⟩, ⟨[116], 6, 0, 0, 3⟩, ⟨[99, 104], 7, 0, 0, 10⟩, ⟨[195, 169], 3, 1, 0, 5⟩, ⟨[65], 0, 0, 1, 7⟩]
def manyP (n : Nat) : List Letter := (List.range n).map fun i => ⟨[UInt8.ofNat (97 + i / 20), UInt8.ofNat (97 + i % 20)], i, 0, 0, 1⟩
def bigL (l : List (List Int)) : Prop := ∀ v ∈ l, v.length ≤ 9223372036854775807
theorem bigL.get {l : List (List Int)} (h : bigL l) (k : Nat) : (l.getD k default).length ≤ 9223372036854775807 := by
  rw [List.getD_eq_getElem?_getD]
  cases hk : l[k]? with
  | none => exact Nat.zero_le _
  | some x => exact h x (List.mem_of_getElem? hk)
def rawP (l : List (List Int)) : List (List Int) := (l.take 8).map (List.take 12)
end Go.Wc

