/-
  DERIVED: THE SHELF's CONTRACTS AT THIS DUMP, IN PLAIN WORDS (tools/lay-plain.mjs out of 'YtjimlkpfmbachaaLay.lean', which tools/lay-shelf.mjs wrote): THE SAME DECLARATIONS UNDER THE SAME NAMES: 'import', 'namespace', 'open', 'def', 'theorem' AND NOTHING ELSE: no command of the shelf's: FOR A HAND-IN. Each laying: the table of numbers ('.._ren') and one theorem, a field a fact of the dump's own or the kernel's comparison; each contract: ONE APPLICATION.
-/
import Derived.Test.YtjimlkpfmbachaaJ23
import Derived.Test.YtjimlkpfmbachaaJ20
import Derived.Test.YtjimlkpfmbachaaJ18
import Derived.Test.YtjimlkpfmbachaaJ21
import Derived.Test.YtjimlkpfmbachaaRows
import Derived.Shelf.SlGeneric
import Derived.Shelf.SlSortCmp.NoneTotal
import Derived.Shelf.SortM.Plain
import Derived.Shelf.SortM.SortNone
import Derived.Ground.SlsfProg
import Derived.Ground.SlgmProg
import Derived.Ground.SlgnProg
import Derived.Shelf.SlicesQ.Reverse
set_option linter.unusedVariables false
set_option linter.unusedSectionVars false
set_option linter.unusedSimpArgs false
namespace Go.Wb
set_option linter.unusedVariables false
open Go.Am
def lbI (a : Int) (s : List Int) : Nat := s.findIdx fun x => decide (a ≤ x)
theorem lb_is {a : Int} {s : List Int} {i : Nat} (hi : i ≤ s.length) (h1 : ∀ k, k < i → s.getD k default < a) (h2 : i < s.length → a ≤ s.getD i default) : i = lbI a s := by
  rcases Nat.lt_or_ge i s.length with h | h
  · refine ((List.findIdx_eq h).2 ⟨?_, fun j hj => ?_⟩).symm
    · have := h2 h; rw [getD_el h] at this; exact decide_eq_true this
    · have := h1 j hj; rw [getD_el (by omega)] at this; exact decide_eq_false (by omega)
  · have hi' : i = s.length := by omega
    subst hi'
    refine (List.findIdx_eq_length.2 fun x hx => ?_).symm
    obtain ⟨j, hj, e⟩ := List.getElem_of_mem hx
    have := h1 j hj
    rw [getD_el hj, e] at this
    exact decide_eq_false (by omega)
theorem lb_yes {a : Int} {s : List Int} {i : Nat} (hi : i < s.length) (h : s.getD i default = a) : a ∈ s := by rw [← h, getD_el hi]; exact List.getElem_mem hi
theorem lb_no {a : Int} {s : List Int} {i : Nat} (hs : Srt leI s) (h1 : ∀ k, k < i → s.getD k default < a) (h2 : i < s.length → a ≤ s.getD i default) (h : i < s.length → s.getD i default ≠ a) : ¬ a ∈ s := by
  intro hm
  obtain ⟨j, hj, e⟩ := List.getElem_of_mem hm
  rw [← getD_el hj] at e
  rcases Nat.lt_trichotomy j i with q | q | q
  · have := h1 j q; omega
  · subst q; exact h hj e
  · have h3 := pair_getD hs q hj
    have h4 := of_decide_eq_true h3.1
    have := h2 (by omega)
    have := h3.2
    omega
mutual
def dR (a : Int) : Rx → Rx
  | .mk k s l => if k = 2 then (if a ∈ s then emptyRx else noneRx) else if k = 4 then altN (dRs a l) else if k = 3 then altN (dRq a l) else if k = 5 then seqN [(dRs a l).getD 0 default, .mk k s l] else noneRx
def dRs (a : Int) : List Rx → List Rx
  | [] => []
  | x :: l => dR a x :: dRs a l
def dRq (a : Int) : List Rx → List Rx
  | [] => []
  | x :: l => seqN [dR a x, seqN l] :: (if accR x = true then dRq a l else [])
end
theorem dRs_map (a : Int) : ∀ l : List Rx, dRs a l = l.map (dR a)
  | [] => by rw [dRs]; rfl
  | x :: l => by rw [dRs, dRs_map a l]; rfl
theorem dR_eq (a : Int) (r : Rx) : dR a r = if r.kind = 2 then (if a ∈ r.syms then emptyRx else noneRx) else if r.kind = 4 then altN (r.kids.map (dR a)) else if r.kind = 3 then altN (dRq a r.kids) else
    if r.kind = 5 then seqN [(r.kids.map (dR a)).getD 0 default, r] else noneRx := by
  cases r with | mk k s l => rw [dR, dRs_map]; rfl
theorem altN_nil : altN [] = noneRx := by
  rfl
def dL (a : Int) (r : Rx) : List Rx := if r.kind = 4 then r.kids.map (dR a) else if r.kind = 3 then dRq a r.kids else []
theorem dL_4 {a : Int} {r : Rx} (h : r.kind = 4) : dL a r = r.kids.map (dR a) := if_pos h
theorem dL_3 {a : Int} {r : Rx} (h : r.kind = 3) : dL a r = dRq a r.kids := by unfold dL; rw [if_neg (by omega), if_pos h]
theorem dL_x {a : Int} {r : Rx} (h : r.kind ≠ 4) (h3 : r.kind ≠ 3) : dL a r = [] := by unfold dL; rw [if_neg h, if_neg h3]
theorem dR_2 {a : Int} {r : Rx} (h : r.kind = 2) (hm : a ∈ r.syms) : dR a r = emptyRx := by rw [dR_eq, if_pos h, if_pos hm]
theorem dR_5 {a : Int} {r : Rx} (h : r.kind = 5) : dR a r = seqN [(r.kids.map (dR a)).getD 0 default, r] := by rw [dR_eq, if_neg (by omega), if_neg (by omega), if_neg (by omega), if_pos h]
theorem dR_5k {a : Int} {r : Rx} (h : r.kind = 5) (h0 : 0 < r.kids.length) : dR a r = seqN [dR a (r.kids.getD 0 default), r] := by rw [dR_5 h, getD_map h0]
theorem dR_x {a : Int} {r : Rx} (h5 : r.kind ≠ 5) (h2 : r.kind = 2 → ¬ a ∈ r.syms) : dR a r = altN (dL a r) := by
  rw [dR_eq]
  by_cases h : r.kind = 2
  · rw [if_pos h, if_neg (h2 h), dL_x (by omega) (by omega), altN_nil]
  · rw [if_neg h]
    by_cases h4 : r.kind = 4
    · rw [if_pos h4, dL_4 h4]
    · rw [if_neg h4]
      by_cases h3 : r.kind = 3
      · rw [if_pos h3, dL_3 h3]
      · rw [if_neg h3, if_neg h5, dL_x h4 h3, altN_nil]
def dQ (a : Int) (l : List Rx) (i : Nat) : Rx := seqN [dR a (l.getD i default), seqN (l.drop (i + 1))]
theorem dRq_drop {a : Int} {l : List Rx} {i : Nat} (h : i < l.length) : dRq a (l.drop i) = dQ a l i :: (if accR (l.getD i default) = true then dRq a (l.drop (i + 1)) else []) := by
  rw [drop_cons h, dRq]; rfl
theorem dRq_upto {a : Int} {l : List Rx} : ∀ i, i ≤ l.length → (∀ j, j < i → accR (l.getD j default) = true) → dRq a l = (List.range i).map (dQ a l) ++ dRq a (l.drop i)
  | 0, _, _ => by simp
  | i + 1, hi, h => by
    rw [dRq_upto i (by omega) fun j hj => h j (by omega), dRq_drop (by omega), if_pos (h i (by omega)), List.range_succ, List.map_append, List.append_assoc]; rfl
theorem dRq_end {a : Int} {l : List Rx} {i : Nat} (hi : i = l.length) (h : ∀ j, j < i → accR (l.getD j default) = true) : dRq a l = (List.range i).map (dQ a l) := by
  rw [dRq_upto i (by omega) h, hi, List.drop_length, dRq, List.append_nil]
theorem dRq_stop {a : Int} {l : List Rx} {i : Nat} (hi : i < l.length) (h : ∀ j, j < i → accR (l.getD j default) = true) (hn : accR (l.getD i default) = false) : dRq a l = (List.range (i + 1)).map (dQ a l) := by
  rw [dRq_upto i (by omega) h, dRq_drop hi, if_neg (by rw [hn]; decide), List.range_succ, List.map_append]; rfl
mutual
def dSz : Rx → Nat
  | .mk k s l => if k = 4 then 2 + dSzs l else if k = 3 then 2 + dSzq l else if k = 5 then 2 + dSzs l + (Rx.mk k s l).size else 2
def dSzs : List Rx → Nat
  | [] => 0
  | x :: l => dSz x + dSzs l
def dSzq : List Rx → Nat
  | [] => 0
  | x :: l => 2 + dSz x + Rx.sizes l + (if accR x = true then dSzq l else 0)
end
theorem dSz_eq (r : Rx) : dSz r = if r.kind = 4 then 2 + dSzs r.kids else if r.kind = 3 then 2 + dSzq r.kids else if r.kind = 5 then 2 + dSzs r.kids + r.size else 2 := by
  cases r with | mk k s l => rw [dSz]; rfl
theorem seqN_two (x y : Rx) : (seqN [x, y]).size ≤ 1 + x.size + y.size := by
  have := size_seqN [x, y]
  simp only [Rx.sizes] at this; omega
theorem dSz_mem {l : List Rx} {x : Rx} (h : x ∈ l) : dSz x ≤ dSzs l := by
  induction l with
  | nil => cases h
  | cons y l ih =>
    rw [dSzs]
    rcases List.mem_cons.1 h with rfl | h
    · omega
    · have := ih h; omega
theorem dSz_spec (a : Int) (r : Rx) : (dR a r).size ≤ dSz r := by
  refine rx_ind (P := fun r => (dR a r).size ≤ dSz r) (fun r ih => ?_) r
  have hs : ∀ l : List Rx, (∀ x ∈ l, (dR a x).size ≤ dSz x) → Rx.sizes (l.map (dR a)) ≤ dSzs l := by
    intro l
    induction l with
    | nil => intro _; exact Nat.le_refl _
    | cons x l ihl =>
      intro h
      have h1 := ihl fun y hy => h y (List.mem_cons_of_mem _ hy)
      have h2 := h x List.mem_cons_self
      rw [List.map_cons, Rx.sizes, dSzs]; omega
  have hq : ∀ l : List Rx, (∀ x ∈ l, (dR a x).size ≤ dSz x) → Rx.sizes (dRq a l) ≤ dSzq l := by
    intro l
    induction l with
    | nil => intro _; rw [dRq]; exact Nat.le_refl _
    | cons x l ihl =>
      intro h
      have h1 := ihl fun y hy => h y (List.mem_cons_of_mem _ hy)
      have h2 := h x List.mem_cons_self
      have h3 := seqN_two (dR a x) (seqN l)
      have h4 := size_seqN l
      rw [dRq, Rx.sizes, dSzq]
      split
      · omega
      · rw [show Rx.sizes [] = 0 from rfl]; omega
  have h1 := hs r.kids ih
  have h2 := hq r.kids ih
  rw [dR_eq, dSz_eq]
  by_cases h : r.kind = 2
  · rw [if_pos h, if_neg (show ¬ r.kind = 4 by omega), if_neg (show ¬ r.kind = 3 by omega), if_neg (show ¬ r.kind = 5 by omega)]
    split <;> rw [size_mk] <;> simp only [List.length_nil, Rx.sizes] <;> omega
  · rw [if_neg h]
    by_cases h4 : r.kind = 4
    · rw [if_pos h4, if_pos h4]; have := size_altN (r.kids.map (dR a)); omega
    · rw [if_neg h4, if_neg h4]
      by_cases h3 : r.kind = 3
      · rw [if_pos h3, if_pos h3]; have := size_altN (dRq a r.kids); omega
      · rw [if_neg h3, if_neg h3]
        by_cases h5 : r.kind = 5
        · rw [if_pos h5, if_pos h5]
          have h6 := seqN_two ((r.kids.map (dR a)).getD 0 default) r
          by_cases h0 : 0 < r.kids.length
          · have := size_mem (kid_mem (l := r.kids.map (dR a)) (i := 0) (by rw [List.length_map]; exact h0)); omega
          · rw [List.eq_nil_of_length_eq_zero (l := r.kids) (by omega)] at h6 ⊢
            have h7 : ((List.map (dR a) []).getD 0 default).size = 1 := rfl
            omega
        · rw [if_neg h5, if_neg h5, size_mk]; simp only [List.length_nil, Rx.sizes]; omega
theorem dSzs_sizes (a : Int) : ∀ l : List Rx, Rx.sizes (l.map (dR a)) ≤ dSzs l
  | [] => Nat.le_refl _
  | x :: l => by
    have h1 := dSzs_sizes a l
    have h2 := dSz_spec a x
    rw [List.map_cons, Rx.sizes, dSzs]; omega
theorem dSzq_sizes (a : Int) : ∀ l : List Rx, Rx.sizes (dRq a l) ≤ dSzq l
  | [] => by rw [dRq]; exact Nat.le_refl _
  | x :: l => by
    have h1 := dSzq_sizes a l
    have h2 := dSz_spec a x
    have h3 := seqN_two (dR a x) (seqN l)
    have h4 := size_seqN l
    rw [dRq, Rx.sizes, dSzq]
    split
    · omega
    · rw [show Rx.sizes [] = 0 from rfl]; omega
theorem dSzq_get : ∀ {l : List Rx} {i : Nat}, i < l.length → (∀ j, j < i → accR (l.getD j default) = true) → 2 + dSz (l.getD i default) + Rx.sizes (l.drop (i + 1)) ≤ dSzq l
  | x :: l, 0, _, _ => by
    rw [dSzq]
    show 2 + dSz x + Rx.sizes l ≤ _
    omega
  | x :: l, i + 1, h, ha => by
    have h1 := dSzq_get (l := l) (i := i) (by simpa using h) fun j hj => ha (j + 1) (by omega)
    have h2 : accR x = true := ha 0 (by omega)
    rw [dSzq, if_pos h2]
    show 2 + dSz (l.getD i default) + Rx.sizes (l.drop (i + 1)) ≤ _
    omega
theorem dSz_4 {r : Rx} (h : r.kind = 4) {i : Nat} (hi : i < r.kids.length) : dSz (r.kids.getD i default) ≤ dSz r ∧ dSzs r.kids ≤ dSz r := by
  have := dSz_mem (kid_mem hi)
  rw [dSz_eq r, if_pos h]; omega
theorem dSz_4s {r : Rx} (h : r.kind = 4) : dSzs r.kids ≤ dSz r := by rw [dSz_eq r, if_pos h]; omega
theorem dSz_3s {r : Rx} (h : r.kind = 3) : dSzq r.kids ≤ dSz r := by rw [dSz_eq r, if_neg (by omega), if_pos h]; omega
theorem dSz_3 {r : Rx} (h : r.kind = 3) {i : Nat} (hi : i < r.kids.length) (ha : ∀ j, j < i → accR (r.kids.getD j default) = true) : 2 + dSz (r.kids.getD i default) + Rx.sizes (r.kids.drop (i + 1)) ≤ dSz r := by
  have := dSzq_get hi ha
  have := dSz_3s h
  omega
theorem dSz_5 {r : Rx} (h : r.kind = 5) (h0 : 0 < r.kids.length) : 2 + dSz (r.kids.getD 0 default) + r.size ≤ dSz r := by
  have := dSz_mem (kid_mem h0)
  rw [dSz_eq r, if_neg (by omega), if_neg (by omega), if_pos h]; omega
theorem dL_sizes (a : Int) (r : Rx) : Rx.sizes (dL a r) ≤ dSz r := by
  by_cases h4 : r.kind = 4
  · rw [dL_4 h4]; have := dSzs_sizes a r.kids; have := dSz_4s h4; omega
  · by_cases h3 : r.kind = 3
    · rw [dL_3 h3]; have := dSzq_sizes a r.kids; have := dSz_3s h3; omega
    · rw [dL_x h4 h3]; exact Nat.zero_le _
theorem mid_eq {i j : Nat} (h : i + j < 4611686018427387904) : IntKind.i64.wrap ((IntKind.u64.wrap ((i : Int) + j)).fdiv (2 ^ (min (1 : Int).toNat IntKind.u64.bits))) = (((i + j) / 2 : Nat) : Int) := by
  have h1 : IntKind.u64.wrap ((i : Int) + j) = (i : Int) + j := by simp [IntKind.wrap, IntKind.signed, IntKind.bits]; omega
  have h2 : ∀ n : Int, 0 ≤ n → n < 4611686018427387904 → IntKind.i64.wrap n = n := fun n h0 h1 => by
    simp [IntKind.wrap, IntKind.signed, IntKind.bits]; omega
  rw [h1, show (min (1 : Int).toNat IntKind.u64.bits) = 1 from rfl, Int.fdiv_eq_ediv_of_nonneg _ (by decide), h2 _ (by omega) (by omega)]
  omega
end Go.Wb

namespace Go.Wb
set_option linter.unusedVariables false
open Go.Am
theorem nf_valid {x : Rx} (h : Nf x) : validR x = true := by
  induction h with
  | none => rw [validR_01 (.inl rfl)]; rfl
  | empty => rw [validR_01 (.inr rfl)]; rfl
  | set h => rw [validR_2 rfl, show setOk (Rx.syms (.mk 2 _ [])) = true from h]; rfl
  | seq h1 h2 h3 ih =>
    rw [validR_34 (.inl rfl)]
    show (true && !(List.any _ _)) = true
    rw [Bool.true_and, Bool.not_eq_true', List.any_eq_false]
    exact fun x hx => by rw [ih x hx]; decide
  | alt h1 h2 h3 h4 h5 h6 ih =>
    rw [validR_34 (.inr rfl)]
    show (true && !(List.any _ _)) = true
    rw [Bool.true_and, Bool.not_eq_true', List.any_eq_false]
    exact fun x hx => by rw [ih x hx]; decide
  | star h1 h2 h3 ih =>
    rw [validR_5 rfl]
    show (true && (true && validR _)) = true
    rw [Bool.true_and, Bool.true_and]; exact ih
def simR (r : Rx) : Rx := if validR r = true then buildR false r else noneRx
def revR (r : Rx) : Rx := if validR r = true then buildR true r else noneRx
theorem simR_nf (r : Rx) : Nf (simR r) := by
  unfold simR; split
  · next h => exact build_nf false r h
  · exact .none
def mtR (r : Rx) (w : List Int) (k : Nat) : Rx := (w.take k).foldl (fun x a => dR a x) (simR r)
def matchR (r : Rx) (w : List Int) : Bool := accR (mtR r w w.length)
theorem size_simR (r : Rx) : (simR r).size ≤ 2 * r.size := by
  unfold simR; split
  · exact size_build false r
  · have := size_pos r; rw [size_mk]; simp only [List.length_nil, Rx.sizes]; omega
end Go.Wb

namespace Go.Wd
set_option linter.unusedVariables false
open Go.Am Go.Wb
instance instDecEqRx : DecidableEq Rx := fun a b => decidable_of_iff _ (eqR_iff a b)
section
variable {K : Type} [DecidableEq K] {kv : K → Value} {l : List K} {k : K}
theorem look_s (hk : ∀ b ∈ l, kv b = kv k → b = k) : mlook (int 0) (l.map kv) (vsC l.length) (kv k) = natI (if k ∈ l then idx l k else 0) := by
  by_cases q : k ∈ l
  · rw [if_pos q, mlook_map hk q]; rfl
  · rw [if_neg q, mlook_not hk q]; rfl
theorem has_s (hk : ∀ b ∈ l, kv b = kv k → b = k) : mhas (l.map kv) (kv k) = decide (k ∈ l) := (mhas_map hk).trans (decide_eq_decide.2 Iff.rfl)
theorem put_ks (hk : ∀ b ∈ l, kv b = kv k → b = k) (q : k ∉ l) : Go.Am.putK (l.map kv) (kv k) = (l ++ [k]).map kv := putK_map hk q
theorem put_vs (hk : ∀ b ∈ l, kv b = kv k → b = k) (q : k ∉ l) : Go.Am.putV (l.map kv) (vsC l.length) (kv k) (natI l.length) = vsC (l ++ [k]).length := by
  rw [putV_map hk q, vs_snoc, List.length_append]; rfl
theorem add_k (hk : ∀ b ∈ l, kv b = kv k → b = k) : Go.Am.putK (l.map kv) (kv k) = (addK l k).map kv := by
  unfold addK
  by_cases q : k ∈ l
  · rw [if_pos q]; unfold Go.Am.putK; rw [kpos_map hk, if_pos q]
  · rw [if_neg q, putK_map hk q]
theorem add_v {f : K → AV} (hk : ∀ b ∈ l, kv b = kv k → b = k) : Go.Am.putV (l.map kv) (l.map f) (kv k) (f k) = (addK l k).map f := by
  unfold addK
  by_cases q : k ∈ l
  · rw [if_pos q]; unfold Go.Am.putV; rw [kpos_map hk, if_pos q]
    simp only []
    have hlt := List.idxOf_lt_length_of_mem q
    refine List.ext_getElem (by simp) fun i h1 h2 => ?_
    rw [List.getElem_set]
    split
    · rename_i e
      subst e
      rw [List.getElem_map, List.getElem_idxOf]
    · rfl
  · rw [if_neg q, putV_map hk q, List.map_append]; rfl
theorem at_k (hk : ∀ b ∈ l, kv b = kv k → b = k) (q : k ∈ l) : kpos (l.map kv) (kv k) = some (l.idxOf k) := by rw [kpos_map hk, if_pos q]
theorem at_v {f : K → AV} (q : k ∈ l) : (l.map f)[l.idxOf k]? = some (f k) := by
  rw [List.getElem?_map, List.getElem?_eq_getElem (List.idxOf_lt_length_of_mem q), List.getElem_idxOf]; rfl
end
def kvR (x : Rx) : Value := strI (tx x)
abbrev encR (x : Rx) : AV := .sc (kvR x)
def nxR (x : Rx) (s : Nat) : Rx := simR (dR (s : Int) (simR x))
def fnR (x : Rx) : Bool := validR x && accR x
end Go.Wd

namespace Go.Am
open Go.RowKit Go.MapKept Go.ChangeMaps
set_option linter.unusedVariables false
section
variable {P : Program} {w0 : Fr} {M0 : Nat → Prop}
variable {o : Oper} {ρ : Operand → Option SV} {ob : List (Nat × Ob)} {x y z : Operand} {T T' e : TypeId} {k b : Nat} {c : Cls} {id off : Nat} {s : St} {t : Nat} {ks : List Value} {vs : List AV} {kt et : TypeId} {kd : TypeDesc} {cs : List SV}
theorem one_omap {j : Nat} (hy : s.ev y = some (.omap j)) (hj : s.o.lookup j = some (.mp ks vs)) : ∀ (E : Env) (a : Act) (w : World), SimE P w0 M0 E s a w → (a.eval y).oneCell' = true := fun E a w hs => by
  have := hs.ev hy ks vs hj; rw [this]; rfl
theorem one_fn {f : FuncId} {caps : List Cap} (hy : s.ev y = some (.fn f caps)) : ∀ (E : Env) (a : Act) (w : World), SimE P w0 M0 E s a w → (a.eval y).oneCell' = true := fun E a w hs => by
  obtain ⟨vs, h, _⟩ := hs.ev hy; rw [h]; rfl
theorem step_store_box_sv {d1 : SV} (ho : o.op = .store T x y) (hd : o.dst = none) (hnd : Nodup s.s = true) (hk : szOf P T = some 1) (hx : s.ev x = some (.pbox id off)) (hl : s.o.lookup id = some (.box e cs)) (hy : s.ev y = some d1) (hlf : d1.leaf = true) (hst : d1.stays false id = true)
    (hone : ∀ (E : Env) (a : Act) (w : World), SimE P w0 M0 E s a w → (a.eval y).oneCell' = true) (hle : Nat.ble (off + 1) cs.length = true) (hM0 : ∀ b, M0 b → b < w0.w.heap.size) : Step P w0 M0 o s (s.upd false id (.box e (spl (keepC id cs) off [d1]))) := by
  rintro a w Q ⟨E, hs⟩
  have hle' := Nat.le_of_ble_eq_true hle
  have hxv := hs.ev hx e cs hl
  have hyv := hs.ev hy
  have h1c := hone E a w hs
  generalize hu : a.eval y = u at hyv h1c
  have hcells : u.cells = #[u] := by cases u <;> simp_all [Value.cells, Value.oneCell']
  obtain ⟨vals, h1, h2, h3, h4⟩ := hs.wok.objs id _ hl
  have hrun := run_storeVar (P := P) (w := w) (v := u) (p := off) hk (by rw [hcells]; rfl) h1 (by simp; omega) (by rw [hcells]; simpa using h1c)
  unfold Oper.wp
  have hexec : (execOp a.eval o).run P w = .ok .skip (w.setRow (E.blk id) (spl vals off [u]).toArray) := by
    rw [hcells] at hrun
    simp [execOp, ho, hxv, hu, Instr.storeAt, Instr.sureAddr, hrun]
  rw [hexec]
  simp only [Oper.upon, hd, Act.put]
  have hspl : off + [u].length ≤ vals.length := by simp; omega
  refine ⟨E, hs.upd false (fun _ => ⟨rfl, .inr (.inl ⟨e, cs, _, hl, rfl⟩)⟩) hnd hM0 (fun i hi => ⟨rfl, rfl⟩) (.inr rfl) (some (E.blk id)) setRow_grown (fun _ => Nat.le_refl _) (fun g hg => ⟨_, hl, by simpa [ownB] using hg⟩) (fun b hb => .inl ⟨_, hl, hb⟩) (fun rep sv => ?_)⟩
  refine ⟨_, setRow_heap w _ _ _ e _ h1, h2, ?_, fun j' d hj' => ?_⟩
  · rw [spl_length hspl, spl_length (by simp [keepC]; omega)]; simp [keepC, h3]
  · rw [spl_get (by simp [keepC]; omega)] at hj'
    rw [List.getD_eq_getElem?_getD, spl_get hspl]
    simp only [List.length_singleton] at hj' ⊢
    split at hj'
    · rename_i hin
      rw [if_pos hin]
      have hz : j' - off = 0 := by omega
      rw [hz] at hj' ⊢
      simp only [List.getElem?_cons_zero, Option.some.injEq] at hj'
      subst hj'
      simp only [List.getElem?_cons_zero, Option.getD_some]
      exact ⟨hlf, h1c, sv _ _ hyv hst⟩
    · rename_i hin
      rw [if_neg hin]
      simp only [keepC, List.getElem?_map, Option.map_eq_some_iff] at hj'
      obtain ⟨d0, hd0, rfl⟩ := hj'
      have := h4 j' d0 hd0
      rw [List.getD_eq_getElem?_getD] at this
      split
      · exact ⟨this.1, this.2.1, sv _ _ this.2.2 ‹_›⟩
      · exact ⟨rfl, this.2.1, trivial⟩
theorem pure_mlook_hit {key : Value} {a0 : AV} {j : Nat} (ho : o.op = .lookup T x y false) (hT : P.underlying T = some (.map kt et)) (hkd : P.underlying kt = some kd) (hx : ρ x = some (.omap id)) (hl : ob.lookup id = some (.mp ks vs)) (hy : scal ρ y = some key) (hk : IsKey kd key) (hks : ∀ q ∈ ks, IsKey kd q)
    (hp : kpos ks key = some j) (ha : vs[j]? = some a0) : Pure P w0 M0 o ρ ob (.v .pl a0) :=
  pure_value fun E w ev hw h => by
    have hyv : ev y = key := scal_ok h hy
    have hxv := h x _ hx ks vs hl
    obtain ⟨es, clock, h1, h2, h3, h4, h5⟩ := hw.objs id _ hl
    have hes : ∀ u ∈ es.toList, IsKey kd u.key := fun u hu => hks _ (by rw [← h3]; exact List.mem_map_of_mem hu)
    have hf := findNow_kpos hk es.toList 0 hes
    rw [h3, hp] at hf
    refine ⟨(es.toList.map fun x : MapEntry => x.val).getD j undef, w, ?_, .refl _ _, h5 j a0 ha⟩
    have : (Instr.lookup T (.map (some (E.blk id))) key false).run P w = .ok ((es.toList.map (·.val)).getD j undef) w := by
      simp [Instr.lookup, run_underlying hT, MapKept.run_getObj_map h1, run_checkKey hkd hk, run_findKey hkd hf, Result.andThen]
    simp [execOp, ho, hyv, hxv, this]
def endOC2 (t k u : Nat) (r r' : AV) (o' : List (Nat × Ob)) : Exit → St → Prop
  | .normal, s | .ret, s => ((s.s.lookup t).bind (boxV s.o k) = some (.v .pl r) ∧ s.s.lookup u = some (.v .pl r')) ∧ ∀ id ob, o'.lookup id = some ob → s.o.lookup id = some ob
  | _, _ => False
theorem callO_of_codeC2 {f n t k u : Nat} {T : TypeId} {c : Code} (hf : FnC2 P f n t T k u c) {args : List SV} {o o' : List (Nat × Ob)} {r r' : AV} (hn : args.length ≤ n)
    (h : ∀ (w0 : Fr) (M0 : Nat → Prop), (∀ b, M0 b → b < w0.w.heap.size) → CodeOk P w0 M0 c (St.enterS n args o) (endOC2 t k u r r' o')) : CallO P f args o (.v .pl (.tup [r, r'])) o' := by
  refine ⟨hf.callable, fun w0 M0 E w vs hM0 hw hv hr => ?_⟩
  obtain ⟨fn, h1, h2, h3, h4, h5, h6, h7⟩ := hf
  refine (calls_coreG h1 h2 h3 (R := fun v E' s' w' => WOk P w0 M0 E' o' w' ∧ SVok P M0 w' E' o' v (.v .pl (.tup [r, r']))) hn vs hv hw hr (h w0 M0 hM0) (fun e s' a' w' E' hq hs => ?_)).mono fun e w' ⟨v, E', s', he, hR⟩ => ⟨v, E', he, hR⟩
  have fin : (((s'.s.lookup t).bind (boxV s'.o k) = some (.v .pl r) ∧ s'.s.lookup u = some (.v .pl r')) ∧ ∀ id ob, o'.lookup id = some ob → s'.o.lookup id = some ob) → ∃ v, (results fn a'.tmps).run P w' = .ok v w' ∧ WOk P w0 M0 E' o' w' ∧ SVok P M0 w' E' o' v (.v .pl (.tup [r, r'])) := fun ⟨⟨hb, hlu⟩, q2⟩ => by
    rw [Option.bind_eq_some_iff] at hb
    obtain ⟨sv, hl, hb⟩ := hb
    obtain ⟨v, g1, g2⟩ := run_load_box_agg h6 h7 hs.wok (hs.slots t sv hl).2 hb
    have r1 : Rep w' _ v r := g2.fewer q2
    have r2 : Rep w' _ (a'.tmps.getD u undef) r' := (hs.slots u _ hlu).2.fewer q2
    refine ⟨.tuple #[v, a'.tmps.getD u undef], ?_, hs.wok.fewer q2, ?_⟩
    · have g1' : ((Sem.run P (asAddr (a'.tmps[t]?.getD undef)) w').andThen fun x w => Sem.run P (loadVar T x) w) = .ok v w' := by simpa using g1
      simp [results, h4, Sem.run_bind]
      revert g1'
      cases Sem.run P (asAddr (a'.tmps[t]?.getD undef)) w' with
      | ok a w2 => intro g; simp only [Result.andThen_ok] at g ⊢; rw [g]; rfl
      | _ => intro g; exact absurd g (by simp [Result.andThen])
    · exact Rep.tup [v, a'.tmps.getD u undef] [r, r'] rfl (fun j d hd => by
        match j, hd with
        | 0, hd => simp at hd; subst hd; exact r1
        | 1, hd => simp at hd; subst hd; exact r2
        | j + 2, hd => simp at hd)
  cases e with
  | normal => exact ⟨.inl rfl, fin hq⟩
  | ret => exact ⟨.inr rfl, fin hq⟩
  | exit _ => exact hq.elim
  | goto _ => exact hq.elim
  | panic _ => exact hq.elim
  | outgrown => exact hq.elim
theorem endOC2_ret {t k u : Nat} {r r' r1 r2 : AV} {o' o1 : List (Nat × Ob)} {s : St} (h : (s.s.lookup t).bind (boxV s.o k) = some (.v .pl r1)) (h' : s.s.lookup u = some (.v .pl r2)) (ho : HasO s o1) (e : (r1 = r ∧ r2 = r') ∧ o1 = o') : endOC2 t k u r r' o' .ret s := by
  obtain ⟨⟨rfl, rfl⟩, rfl⟩ := e
  exact ⟨⟨h, h'⟩, ho.out⟩
theorem callF_of_callO_nil {f : FuncId} {e : TypeId} {l : List Int} {d : AV} (h : CallO P f [.own 0, .v .pl d] [(0, .arr e [])] (.own 0) [(0, .arr e (l.map byteI))]) : CallF P f [.sc (.slice none 0 0), d] (.fresh e (l.map byteI)) := by
  refine ⟨h.1, fun w vs hv hr => ?_⟩
  have hv0 : vs.getD 0 undef = .slice none 0 0 := by
    have := hr 0 _ rfl
    generalize vs.getD 0 undef = u at this ⊢
    cases this; rfl
  have hno : ∀ b, ¬ owned (⟨fun _ => .slice none 0 0, fun _ => 0⟩ : Env) [(0, .arr e [])] b := fun b ⟨i, obx, h1, h2⟩ => by
    obtain ⟨_, rfl⟩ := one_look h1
    cases h2
  refine (h.2 (Fr.all w) (fun _ => False) ⟨fun _ => .slice none 0 0, fun _ => 0⟩ w vs (fun b hb => hb.elim) ⟨fun i obx hi => ?_, fun i ob i' ob' b h1 h2 _ _ => (one_look h1).1.trans (one_look h2).1.symm, Keep.refl _ _, fun x hx => by cases hx⟩ hv (fun j dd hj => ?_)).mono fun ee w' ⟨v, E', he, hw', hsv⟩ => ?_
  · obtain ⟨rfl, rfl⟩ := one_look hi
    refine ⟨[], ⟨World.ownsRow_nil w _ _ _, fun b hb => (by cases hb)⟩, fun x hx => (by cases hx), fun j d hd => (by simp [flat] at hd)⟩
  · match j, hj with
    | 0, hj =>
      simp only [List.getElem?_cons_zero, Option.some.injEq] at hj
      subst hj
      intro e' xs _
      exact hv0
    | 1, hj =>
      simp only [List.getElem?_cons_succ, List.getElem?_cons_zero, Option.some.injEq] at hj
      subst hj
      exact (hr 1 _ rfl).mono (Nat.le_refl _) (fun _ _ _ => rfl) (fun b _ _ hb => hb.elim (fun h => h) (fun h => hno b h))
    | j + 2, hj => simp at hj
  · have hvv : v = E'.cur 0 := hsv e _ one_self
    obtain ⟨vals, h1, h2, h3⟩ := hw'.objs 0 _ one_self
    refine ⟨v, he, hw'.below.below, vals, ⟨by rw [hvv]; exact h1.1, fun b hb => (h1.2 b (by rw [← hvv]; exact hb)).1⟩, h2, fun j d hj => ⟨(h3 j d hj).1, ?_⟩⟩
    have h4 := (h3 j d hj).2
    have hd : ∃ n, d = byteI n := by
      have hm := List.mem_of_getElem? hj
      rw [show flat (l.map byteI) = l.map byteI from flat_sc _ l, List.mem_map] at hm
      obtain ⟨n, _, rfl⟩ := hm
      exact ⟨n, rfl⟩
    obtain ⟨n, rfl⟩ := hd
    generalize vals.getD j undef = u at h4 ⊢
    cases h4 with | sc _ h5 => exact .sc _ h5
theorem step_callOD {X G : List (Nat × SV)} {o1 oc : List (Nat × Ob)} {n u v f : Nat} {ats : Array TypeId} {dd r : AV} {cp : List Cap} {cs : List SV} (ho : o.op = .call { callee := .value (.tmp u), args := #[.tmp v], argTypes := ats }) (hd : o.dst = some t) (hn : Nat.blt t n = true) (hnd : Nodup X = true)
    (hu : X.lookup u = some (.fn f cp)) (hv : X.lookup v = some (.v .pl dd)) (hcs : calleeOf (.fn f cp) = some (f, cs)) (h : CallO P f (.v .pl dd :: cs) oc (.v .pl r) oc) (hcr : ∀ c ∈ cs, c.ren [] = c) (hob : HasRen ⟨n, X, o1⟩ [] oc) (hinj : nodupN (idsO [] oc) = true)
    (hbig : oc.all (fun p => Nat.beq p.2.kind 0 || Nat.ble 1000000 p.1) = true) (hpl : oc.all (fun p => p.2.plain (oc.map (·.1))) = true) (hGt : G.lookup t = some (.v .pl r)) (hs : ∀ t' d, X.lookup t' = some d → t' ≠ t → d.safe (idsO [] oc) = true) (hao : (o1.map fun p => (p.1, ((newO [] oc).lookup p.1).getD (p.2.after (idsO [] oc)))) = o1) (hM0 : ∀ b, M0 b → b < w0.w.heap.size) :
    ∃ s', Step P w0 M0 o ⟨n, X, o1⟩ s' ∧ Imp P w0 M0 s' ⟨n, aftS G X o, o1⟩ := by
  have hargs : ∀ (l : List SV), (∀ c ∈ l, c.ren [] = c) → ArgsOk ⟨n, X, o1⟩ [] (idsO [] oc) l l := by
    intro l
    induction l with
    | nil => intro _; trivial
    | cons c l ih => intro hl; exact ⟨.inl (hl c List.mem_cons_self).symm, ih fun c hc => hl c (List.mem_cons_of_mem _ hc)⟩
  refine ⟨_, step_callO (s := ⟨n, X, o1⟩) (t := t) (dc := .fn f cp) (caps := cs) (svs := [.v .pl dd]) [] ho hd hn hnd hu hcs ?_ h ⟨.inl rfl, hargs cs hcr⟩ hob hinj rfl hbig hpl rfl hM0, ?_⟩
  · show evs ⟨n, X, _⟩ [.tmp v] = _
    unfold evs evs
    simp only [St.ev, hv]
  · have e1 : aftS G X o = ins t (.v .pl r) X := by unfold aftS; rw [hd]; simp only [hGt]
    rw [e1]
    refine imp_slots rfl hao.symm fun t' d ht' => ?_
    show (ins t (SV.v .pl r) (X.filter fun p => p.2.safe (idsO [] oc))).lookup t' = some d
    have ht' : (ins t (SV.v .pl r) X).lookup t' = some d := ht'
    rw [lookup_ins] at ht' ⊢
    by_cases q : t' = t
    · rw [if_pos q] at ht' ⊢; exact ht'
    · rw [if_neg q] at ht' ⊢
      exact lookup_safe _ X t' d hnd ht' (hs t' d ht' q)
theorem code_draw1e {ops : Array Oper} {id : Nat} {n : Nat} {s0 : List (Nat × SV)} {o1 : List (Nat × Ob)} (a k : Nat) (G : List (Nat × SV)) {Q' : Exit → St → Prop} (hm : P.follows .mixedOrders = true) (hok : drawOk ops = true) (htl : phaseOk ops k = true) (hmid : midOkG ops n k (Nat.beq a) = true) (hks : Nat.ble k ops.size = true)
    (hG : ∀ t d, (G.filter fun p => keepL ops k #[] p.1).lookup t = some d → s0.lookup t = some d) (hnd : Nodup G = true)
    (hset : ∀ i t, i < k → (ops[i]?).bind (·.dst) = some t → ∃ d, G.lookup t = some d)
    (hP : ∀ i o t d, i < k → i ≠ a → ops[i]? = some o → o.dst = some t → G.lookup t = some d → Pure P w0 M0 o (restr ops o (St.ev ⟨n, G, o1⟩)) o1 d)
    (hA : ∀ o X, ops[a]? = some o → Nodup X = true → (∀ t d, X.lookup t = some d → G.lookup t = some d) → (∀ t, t ∈ looks ops o → X.lookup t = G.lookup t) → ∃ s', Step P w0 M0 o ⟨n, X, o1⟩ s' ∧ Imp P w0 M0 s' ⟨n, aftS G X o, o1⟩)
    (hend : EndL P w0 M0 ops (fun s => ∃ s', Imp P w0 M0 s s' ∧ Q' .normal s') k ⟨n, G, o1⟩) : CodeOk P w0 M0 (.region id ops true) ⟨n, s0, o1⟩ Q' := by
  refine code_drawG (eff := Nat.beq a) (oL := fun _ => o1) (o2 := o1) k G hm hok htl hmid hks hG hnd hset (fun L hL => rfl) (fun L hL => rfl) (fun L i o t d hL hc hanc hLi hik hef ho hd hGd => ⟨?_, rfl⟩) (fun L i o X hL hc hanc hLi hik hef ho hX hXG hXr => ?_) hend
  · exact hP i o t d hik (fun e => by rw [e, Nat.beq_refl] at hef; cases hef) ho hd hGd
  · obtain rfl : a = i := Nat.eq_of_beq_eq_true hef
    exact hA o X ho hX hXG hXr
end
end Go.Am

namespace Go.Proofs
open Go.Shelf
def Try.sortR_ren : Go.Shelf.Ren := ⟨fun | 6 => 68 | 15 => 75 | 14 => 76 | 28 => 90 | 29 => 91 | 20 => 92 | 21 => 93 | 22 => 94 | 23 => 95 | 24 => 96 | 25 => 97 | 26 => 98 | 27 => 99 | 46 => 105 | 47 => 101 | 48 => 102 | 49 => 106 | 50 => 107 | 57 => 109 | n => n, fun | 22 => 45 | 24 => 47 | 25 => 100 | 3 => 3 | 39 => 84 | 0 => 0 | 53 => 118 | 55 => 52 | 4 => 4 | 46 => 112 | 45 => 111 | 50 => 64 | 5 => 5 | 9 => 9 | 66 => 125 | 70 => 129 | 76 => 133 | 77 => 134 | n => n, fun | n => n⟩
theorem Try.sortR : Go.Proofs.SlLaysF0.n6 Try.prog Try.sortR_ren := {
  mixed := by kernel_rfl
  f6 := ⟨Try.f68.name, by decide, Try.func68.trans (congrArg some (by kernel_rfl))⟩
  f14 := ⟨Try.f76.name, by decide, Try.func76.trans (congrArg some (by kernel_rfl))⟩
  f15 := Try.func75.trans (congrArg some (by kernel_rfl))
  f20 := ⟨Try.f92.name, by decide, Try.func92.trans (congrArg some (by kernel_rfl))⟩
  f21 := ⟨Try.f93.name, by decide, Try.func93.trans (congrArg some (by kernel_rfl))⟩
  f22 := ⟨Try.f94.name, by decide, Try.func94.trans (congrArg some (by kernel_rfl))⟩
  f23 := ⟨Try.f95.name, by decide, Try.func95.trans (congrArg some (by kernel_rfl))⟩
  f24 := ⟨Try.f96.name, by decide, Try.func96.trans (congrArg some (by kernel_rfl))⟩
  f25 := ⟨Try.f97.name, by decide, Try.func97.trans (congrArg some (by kernel_rfl))⟩
  f26 := ⟨Try.f98.name, by decide, Try.func98.trans (congrArg some (by kernel_rfl))⟩
  f27 := ⟨Try.f99.name, by decide, Try.func99.trans (congrArg some (by kernel_rfl))⟩
  f28 := Try.func90.trans (congrArg some (by kernel_rfl))
  f29 := Try.func91.trans (congrArg some (by kernel_rfl))
  f46 := ⟨Try.f105.name, by decide, Try.func105.trans (congrArg some (by kernel_rfl))⟩
  f47 := Try.func101.trans (congrArg some (by kernel_rfl))
  f48 := Try.func102.trans (congrArg some (by kernel_rfl))
  f49 := ⟨Try.f106.name, by decide, Try.func106.trans (congrArg some (by kernel_rfl))⟩
  f50 := ⟨Try.f107.name, by decide, Try.func107.trans (congrArg some (by kernel_rfl))⟩
  f57 := ⟨Try.f109.name, by decide, Try.func109.trans (congrArg some (by kernel_rfl))⟩
  t0 := Try.underlying0
  a0 := Try.isAgg0
  z0 := Try.sizeOf0
  v0 := Try.zeroValue0
  t3 := Try.underlying3
  a3 := Try.isAgg3
  z3 := Try.sizeOf3
  v3 := Try.zeroValue3
  t4 := Try.underlying4
  a4 := Try.isAgg4
  z4 := Try.sizeOf4
  v4 := Try.zeroValue4
  t5 := Try.underlying5
  a5 := Try.isAgg5
  z5 := Try.sizeOf5
  v5 := Try.zeroValue5
  t9 := Try.underlying9
  a9 := Try.isAgg9
  z9 := Try.sizeOf9
  v9 := Try.zeroValue9
  t22 := Try.underlying45
  a22 := Try.isAgg45
  z22 := Try.sizeOf45
  v22 := Try.zeroValue45
  t25 := Try.underlying100
  a25 := Try.isAgg100
  z25 := Try.sizeOf100
  v25 := Try.zeroValue100
  t39 := Try.underlying84
  a39 := Try.isAgg84
  z39 := Try.sizeOf84
  v39 := Try.zeroValue84
  t45 := Try.underlying111
  a45 := Try.isAgg111
  z45 := Try.sizeOf111
  v45 := Try.zeroValue111
  t46 := Try.underlying112
  a46 := Try.isAgg112
  z46 := Try.sizeOf112
  v46 := Try.zeroValue112
  t50 := Try.underlying64
  a50 := Try.isAgg64
  z50 := Try.sizeOf64
  v50 := Try.zeroValue64
  t53 := Try.underlying118
  a53 := Try.isAgg118
  z53 := Try.sizeOf118
  v53 := Try.zeroValue118
  t55 := Try.underlying52
  a55 := Try.isAgg52
  z55 := Try.sizeOf52
  v55 := Try.zeroValue52
  t66 := Try.underlying125
  a66 := Try.isAgg125
  z66 := Try.sizeOf125
  v66 := Try.zeroValue125
  t70 := Try.underlying129
  a70 := Try.isAgg129
  z70 := Try.sizeOf129
  v70 := Try.zeroValue129
  t76 := Try.underlying133
  a76 := Try.isAgg133
  z76 := Try.sizeOf133
  v76 := Try.zeroValue133
  t77 := Try.underlying134
  a77 := Try.isAgg134
  z77 := Try.sizeOf134
  v77 := Try.zeroValue134 }
def Try.sortZ_ren : Go.Shelf.Ren := ⟨fun | 5 => 66 | 8 => 75 | 7 => 74 | 19 => 90 | 20 => 91 | 10 => 82 | 11 => 83 | 12 => 84 | 13 => 85 | 14 => 86 | 15 => 87 | 16 => 72 | 17 => 88 | 18 => 89 | 30 => 100 | 31 => 101 | 32 => 102 | 33 => 103 | 34 => 104 | 35 => 81 | 40 => 108 | n => n, fun | 23 => 22 | 25 => 3 | 3 => 3 | 32 => 84 | 22 => 22 | 0 => 0 | 44 => 118 | 46 => 52 | 4 => 4 | 36 => 112 | 35 => 111 | 41 => 64 | 5 => 5 | 9 => 9 | 53 => 125 | 57 => 129 | 63 => 133 | 64 => 134 | n => n, fun | n => n⟩
theorem Try.sortZ : Go.Proofs.SlLaysM.n5 Try.prog Try.sortZ_ren := {
  mixed := by kernel_rfl
  f5 := ⟨Try.f66.name, by decide, Try.func66.trans (congrArg some (by kernel_rfl))⟩
  f7 := ⟨Try.f74.name, by decide, Try.func74.trans (congrArg some (by kernel_rfl))⟩
  f8 := Try.func75.trans (congrArg some (by kernel_rfl))
  f10 := ⟨Try.f82.name, by decide, Try.func82.trans (congrArg some (by kernel_rfl))⟩
  f11 := ⟨Try.f83.name, by decide, Try.func83.trans (congrArg some (by kernel_rfl))⟩
  f12 := ⟨Try.f84.name, by decide, Try.func84.trans (congrArg some (by kernel_rfl))⟩
  f13 := ⟨Try.f85.name, by decide, Try.func85.trans (congrArg some (by kernel_rfl))⟩
  f14 := ⟨Try.f86.name, by decide, Try.func86.trans (congrArg some (by kernel_rfl))⟩
  f15 := ⟨Try.f87.name, by decide, Try.func87.trans (congrArg some (by kernel_rfl))⟩
  f16 := ⟨Try.f72.name, by decide, Try.func72.trans (congrArg some (by kernel_rfl))⟩
  f17 := ⟨Try.f88.name, by decide, Try.func88.trans (congrArg some (by kernel_rfl))⟩
  f18 := ⟨Try.f89.name, by decide, Try.func89.trans (congrArg some (by kernel_rfl))⟩
  f19 := Try.func90.trans (congrArg some (by kernel_rfl))
  f20 := Try.func91.trans (congrArg some (by kernel_rfl))
  f30 := ⟨Try.f100.name, by decide, Try.func100.trans (congrArg some (by kernel_rfl))⟩
  f31 := Try.func101.trans (congrArg some (by kernel_rfl))
  f32 := Try.func102.trans (congrArg some (by kernel_rfl))
  f33 := ⟨Try.f103.name, by decide, Try.func103.trans (congrArg some (by kernel_rfl))⟩
  f34 := ⟨Try.f104.name, by decide, Try.func104.trans (congrArg some (by kernel_rfl))⟩
  f35 := ⟨Try.f81.name, by decide, Try.func81.trans (congrArg some (by kernel_rfl))⟩
  f40 := ⟨Try.f108.name, by decide, Try.func108.trans (congrArg some (by kernel_rfl))⟩
  t0 := Try.underlying0
  a0 := Try.isAgg0
  z0 := Try.sizeOf0
  v0 := Try.zeroValue0
  t3 := Try.underlying3
  a3 := Try.isAgg3
  z3 := Try.sizeOf3
  v3 := Try.zeroValue3
  t4 := Try.underlying4
  a4 := Try.isAgg4
  z4 := Try.sizeOf4
  v4 := Try.zeroValue4
  t5 := Try.underlying5
  a5 := Try.isAgg5
  z5 := Try.sizeOf5
  v5 := Try.zeroValue5
  t9 := Try.underlying9
  a9 := Try.isAgg9
  z9 := Try.sizeOf9
  v9 := Try.zeroValue9
  t22 := Try.underlying22
  a22 := Try.isAgg22
  z22 := Try.sizeOf22
  v22 := Try.zeroValue22
  t23 := Try.underlying22
  a23 := Try.isAgg22
  z23 := Try.sizeOf22
  v23 := Try.zeroValue22
  t25 := Try.underlying3
  a25 := Try.isAgg3
  z25 := Try.sizeOf3
  v25 := Try.zeroValue3
  t32 := Try.underlying84
  a32 := Try.isAgg84
  z32 := Try.sizeOf84
  v32 := Try.zeroValue84
  t35 := Try.underlying111
  a35 := Try.isAgg111
  z35 := Try.sizeOf111
  v35 := Try.zeroValue111
  t36 := Try.underlying112
  a36 := Try.isAgg112
  z36 := Try.sizeOf112
  v36 := Try.zeroValue112
  t41 := Try.underlying64
  a41 := Try.isAgg64
  z41 := Try.sizeOf64
  v41 := Try.zeroValue64
  t44 := Try.underlying118
  a44 := Try.isAgg118
  z44 := Try.sizeOf118
  v44 := Try.zeroValue118
  t46 := Try.underlying52
  a46 := Try.isAgg52
  z46 := Try.sizeOf52
  v46 := Try.zeroValue52
  t53 := Try.underlying125
  a53 := Try.isAgg125
  z53 := Try.sizeOf125
  v53 := Try.zeroValue125
  t57 := Try.underlying129
  a57 := Try.isAgg129
  z57 := Try.sizeOf129
  v57 := Try.zeroValue129
  t63 := Try.underlying133
  a63 := Try.isAgg133
  z63 := Try.sizeOf133
  v63 := Try.zeroValue133
  t64 := Try.underlying134
  a64 := Try.isAgg134
  z64 := Try.sizeOf134
  v64 := Try.zeroValue134 }
def Try.revR_ren : Go.Shelf.Ren := ⟨fun | 35 => 58 | n => n, fun | 22 => 45 | 23 => 47 | 3 => 3 | 4 => 4 | 0 => 0 | n => n, fun | n => n⟩
theorem Try.revR : Go.Proofs.SlLaysE0.n35 Try.prog Try.revR_ren := {
  mixed := by kernel_rfl
  f35 := ⟨Try.f58.name, by decide, Try.func58.trans (congrArg some (by kernel_rfl))⟩
  t0 := Try.underlying0
  a0 := Try.isAgg0
  z0 := Try.sizeOf0
  v0 := Try.zeroValue0
  t3 := Try.underlying3
  a3 := Try.isAgg3
  z3 := Try.sizeOf3
  v3 := Try.zeroValue3
  t4 := Try.underlying4
  a4 := Try.isAgg4
  z4 := Try.sizeOf4
  v4 := Try.zeroValue4
  t22 := Try.underlying45
  a22 := Try.isAgg45
  z22 := Try.sizeOf45
  v22 := Try.zeroValue45 }
end Go.Proofs

