/-
  Parts of data by a length; a place in an array that is a variable of the call's own.
-/
import Derived.Test.YtgdehkimfmfofaaGreatJ15
import Derived.Test.YtgdehkimfmfofaaGreatJ19
import Derived.Test.YtgdehkimfmfofaaGreatJ11
set_option linter.unusedVariables false
set_option linter.unusedSimpArgs false
namespace Go.Wb
set_option linter.unusedVariables false
open Go.Am Go.Wc
theorem valid_one {v : Int} (h : 0 ≤ v ∧ v < 64) : validR (.mk 2 [v] []) = true := nf_valid (.set (sing_ok h))
theorem valid_two {v w : Int} (h : 0 ≤ v ∧ v < w ∧ w < 64) : validR (.mk 2 [v, w] []) = true := by
  refine nf_valid (.set (setOk_iff.2 ⟨Nat.succ_pos _, ?_, fun x hx => ?_⟩))
  · exact List.pairwise_cons.2 ⟨fun y hy => by rw [List.mem_singleton.1 hy]; exact ⟨decide_eq_true (by omega), by omega⟩, List.pairwise_singleton _ _⟩
  · rcases List.mem_cons.1 hx with rfl | hx
    · omega
    · rw [List.mem_singleton.1 hx]; omega
theorem valid_star {x : Rx} (h : validR x = true) : validR (.mk 5 [] [x]) = true := by
  rw [validR_5 rfl]
  show (true && (true && validR x)) = true
  rw [h]; rfl
theorem valid_pair {k : Int} {x y : Rx} (hk : k = 3 ∨ k = 4) (hx : validR x = true) (hy : validR y = true) : validR (.mk k [] [x, y]) = true := by
  rw [validR_34 (r := .mk k [] [x, y]) hk]
  show (true && !(List.any [x, y] fun x => !validR x)) = true
  simp [hx, hy]
theorem valid_leaf {k : Int} (hk : k = 0 ∨ k = 1) : validR (.mk k [] []) = true := by rw [validR_01 (r := .mk k [] []) hk]; rfl
theorem shpF_valid {most n : Int} {st : List Rx} (hm : 0 < most ∧ most ≤ 64) (hn : 0 ≤ n) (h : ∀ x ∈ st, validR x = true) : ∀ x ∈ shpF most n st, validR x = true := by
  have a1 := Int.emod_nonneg (n / 8) (show most ≠ 0 by omega)
  have a2 := Int.emod_lt_of_pos (n / 8) hm.1
  have b1 := Int.emod_nonneg (n / 8 / most) (show most ≠ 0 by omega)
  have b2 := Int.emod_lt_of_pos (n / 8 / most) hm.1
  have hg : ∀ i, i < st.length → validR (st.getD i default) = true := fun i hi => h _ (kid_mem hi)
  have happ : ∀ y, validR y = true → ∀ x ∈ st ++ [y], validR x = true := fun y hy x hx => by
    rcases List.mem_append.1 hx with hx | hx
    · exact h x hx
    · rw [List.mem_singleton.1 hx]; exact hy
  have hset : ∀ i y, validR y = true → ∀ x ∈ st.set i y, validR x = true := fun i y hy x hx => by
    rcases List.mem_or_eq_of_mem_set hx with hx | hx
    · exact h x hx
    · rw [hx]; exact hy
  unfold shpF
  split
  · exact happ _ (valid_one (by omega))
  · split
    · refine happ _ ?_
      split
      · exact valid_one (by omega)
      · refine valid_two ?_
        unfold minI maxI
        split <;> split <;> omega
    · split
      · next hc => exact hset _ _ (valid_star (hg _ (by omega)))
      · split
        · next hc => exact fun x hx => hset _ _ (valid_pair (.inl rfl) (hg _ (by omega)) (hg _ (by omega))) x (List.mem_of_mem_take hx)
        · split
          · next hc => exact fun x hx => hset _ _ (valid_pair (.inr rfl) (hg _ (by omega)) (hg _ (by omega))) x (List.mem_of_mem_take hx)
          · split
            · next hc => exact hset _ _ (valid_pair (.inr rfl) (valid_leaf (.inr rfl)) (hg _ (by omega)))
            · split
              · refine happ _ (valid_leaf ?_)
                unfold minI
                split <;> omega
              · exact h
theorem sizes_set : ∀ {l : List Rx} {k : Nat} {y : Rx}, k < l.length → Rx.sizes (l.set k y) + (l.getD k default).size = Rx.sizes l + y.size
  | x :: l, 0, y, _ => by
    show Rx.sizes (y :: l) + x.size = _
    rw [Rx.sizes, Rx.sizes]; omega
  | x :: l, k + 1, y, h => by
    have := sizes_set (l := l) (k := k) (y := y) (by simpa using h)
    show Rx.sizes (x :: l.set k y) + (l.getD k default).size = _
    rw [Rx.sizes, Rx.sizes]; omega
theorem sizes_pop {l : List Rx} {k : Nat} (h : k + 1 = l.length) : Rx.sizes (l.take k) + (l.getD k default).size = Rx.sizes l := by
  have h1 := sizes_take_drop l k
  rw [drop_cons (by omega), List.drop_of_length_le (by omega), Rx.sizes, show Rx.sizes [] = 0 from rfl] at h1
  omega
theorem size_two (k : Int) (x y : Rx) : (Rx.mk k [] [x, y]).size = 1 + x.size + y.size := by rw [size_mk, Rx.sizes, Rx.sizes, show Rx.sizes [] = 0 from rfl, List.length_nil]; omega
theorem shpF_size (most n : Int) (st : List Rx) : Rx.sizes (shpF most n st) ≤ Rx.sizes st + 3 := by
  have happ : ∀ y : Rx, y.size ≤ 3 → Rx.sizes (st ++ [y]) ≤ Rx.sizes st + 3 := fun y hy => by
    rw [sizes_append, Rx.sizes, show Rx.sizes [] = 0 from rfl]; omega
  have hset1 : ∀ {k : Nat} {y : Rx}, k < st.length → y.size ≤ (st.getD k default).size + 2 → Rx.sizes (st.set k y) ≤ Rx.sizes st + 3 := fun {k y} hk hy => by
    have := sizes_set (y := y) hk; omega
  have hpop : ∀ (c : Int), 1 < st.length → Rx.sizes ((st.set (st.length - 2) (.mk c [] [st.getD (st.length - 2) default, st.getD (st.length - 1) default])).take (st.length - 1)) ≤ Rx.sizes st + 3 := fun c h => by
    have h1 := sizes_set (l := st) (k := st.length - 2) (y := .mk c [] [st.getD (st.length - 2) default, st.getD (st.length - 1) default]) (by omega)
    rw [size_two] at h1
    have h2 := sizes_pop (l := st.set (st.length - 2) (.mk c [] [st.getD (st.length - 2) default, st.getD (st.length - 1) default])) (k := st.length - 1) (by rw [List.length_set]; omega)
    rw [getD_set_ne' (by omega)] at h2
    omega
  unfold shpF
  split
  · exact happ _ (by rw [size_mk]; simp only [List.length_cons, List.length_nil, Rx.sizes]; omega)
  · split
    · refine happ _ ?_
      split
      · rw [size_mk]; simp only [List.length_cons, List.length_nil, Rx.sizes]; omega
      · rw [size_mk]; simp only [List.length_cons, List.length_nil, Rx.sizes]; omega
    · split
      · next hc => exact hset1 (by omega) (by rw [size_mk, Rx.sizes, show Rx.sizes [] = 0 from rfl, List.length_nil]; omega)
      · split
        · next hc => exact hpop 3 hc.2
        · split
          · next hc => exact hpop 4 hc.2
          · split
            · next hc => exact hset1 (by omega) (by rw [size_two, show (emptyRx).size = 1 from rfl]; omega)
            · split
              · exact happ _ (by rw [size_mk]; simp only [List.length_cons, List.length_nil, Rx.sizes]; omega)
              · omega
theorem shpN_good {most : Int} {l : List Int} (hm : 0 < most ∧ most ≤ 64) : ∀ i, (∀ x ∈ shpN most l i, validR x = true) ∧ Rx.sizes (shpN most l i) ≤ 3 * i
  | 0 => ⟨(fun x hx => by cases hx), Nat.le_refl _⟩
  | i + 1 => by
    obtain ⟨h1, h2⟩ := shpN_good (l := l) hm i
    have h3 := shpF_size most (around (l.getD i default) 1048576) (shpN most l i)
    rw [shpN]
    exact ⟨shpF_valid hm (around_lt (by decide)).1 h1, by omega⟩
theorem shaped_good {most : Int} (l : List Int) (hm : 0 < most ∧ most ≤ 64) : validR (shapedP l most) = true ∧ (shapedP l most).size ≤ 49 := by
  obtain ⟨h1, h2⟩ := shpN_good (l := l) hm (min l.length 16)
  have h3 : min l.length 16 ≤ 16 := Nat.min_le_right _ _
  unfold shapedP shpE
  split
  · exact ⟨h1 _ (kid_mem (by omega)), by have := size_mem (kid_mem (l := shpN most l (min l.length 16)) (i := 0) (by omega)); omega⟩
  · refine ⟨?_, by rw [size_mk, List.length_nil]; omega⟩
    rw [validR_34 (r := .mk 3 [] (shpN most l (min l.length 16))) (.inl rfl)]
    show (true && !(List.any _ _)) = true
    rw [Bool.true_and, Bool.not_eq_true', List.any_eq_false]
    exact fun x hx => by rw [h1 x hx]; decide
end Go.Wb

namespace Go.Wb
set_option linter.unusedVariables false
set_option linter.unusedSimpArgs false
open Go.Am
def lbR (x : Rx) (l : List Rx) : Nat := l.findIdx fun y => !decide (cmpR y x < 0)
def rput (l : List Rx) (x : Rx) : List Rx := if lbR x l < l.length ∧ cmpR (l.getD (lbR x l) default) x = 0 then l else l.take (lbR x l) ++ [x] ++ l.drop (lbR x l)
theorem lbR_is {x : Rx} {l : List Rx} {i : Nat} (hi : i ≤ l.length) (h1 : ∀ k, k < i → cmpR (l.getD k default) x < 0) (h2 : i < l.length → ¬ cmpR (l.getD i default) x < 0) : lbR x l = i := by
  rcases Nat.lt_or_ge i l.length with h | h
  · refine (List.findIdx_eq h).2 ⟨?_, fun j hj => ?_⟩
    · have := h2 h; rw [getD_el h] at this; simp [this]
    · have := h1 j hj; rw [getD_el (by omega)] at this; simp [this]
  · have hi' : i = l.length := by omega
    subst hi'
    refine List.findIdx_eq_length.2 fun x' hx => ?_
    obtain ⟨j, hj, e⟩ := List.getElem_of_mem hx
    have := h1 j hj
    rw [getD_el hj, e] at this
    simp [this]
theorem rput_same {x : Rx} {l : List Rx} {i : Nat} (hi : i < l.length) (h1 : ∀ k, k < i → cmpR (l.getD k default) x < 0) (h2 : cmpR (l.getD i default) x = 0) : rput l x = l := by
  have e := lbR_is (x := x) (l := l) (i := i) (by omega) h1 (fun _ => by omega)
  unfold rput; rw [e, if_pos ⟨hi, h2⟩]
theorem rput_new {x : Rx} {l : List Rx} {i : Nat} (hi : i ≤ l.length) (h1 : ∀ k, k < i → cmpR (l.getD k default) x < 0) (h2 : i < l.length → ¬ cmpR (l.getD i default) x < 0) (h3 : i < l.length → ¬ cmpR (l.getD i default) x = 0) :
    rput l x = l.take i ++ [x] ++ l.drop i := by
  have e := lbR_is hi h1 h2
  unfold rput; rw [e, if_neg fun q => h3 q.1 q.2]
theorem lbR_le (x : Rx) (l : List Rx) : lbR x l ≤ l.length := List.findIdx_le_length
theorem lbR_lt {x : Rx} {l : List Rx} {k : Nat} (h : k < lbR x l) : cmpR (l.getD k default) x < 0 := by
  have h1 := lbR_le x l
  have h2 := List.not_of_lt_findIdx (p := fun y => !decide (cmpR y x < 0)) (xs := l) h
  rw [getD_el (by omega)]
  simpa using h2
theorem lbR_at {x : Rx} {l : List Rx} (h : lbR x l < l.length) : ¬ cmpR (l.getD (lbR x l) default) x < 0 := by
  have h2 := List.findIdx_getElem (p := fun y => !decide (cmpR y x < 0)) (xs := l) (w := h)
  have e : l.getD (lbR x l) default = l[l.findIdx fun y => !decide (cmpR y x < 0)] := getD_el h
  rw [e]
  simpa using h2
theorem rput_mem {x y : Rx} {l : List Rx} : y ∈ rput l x ↔ y ∈ l ∨ y = x := by
  unfold rput
  split
  · next h => exact ⟨.inl, fun q => q.elim id fun e => by rw [e, ← cmpR_zero _ _ h.2]; exact kid_mem h.1⟩
  · rw [List.mem_append, List.mem_append, List.mem_singleton]
    constructor
    · rintro ((h | h) | h)
      · exact .inl (List.mem_of_mem_take h)
      · exact .inr h
      · exact .inl (List.mem_of_mem_drop h)
    · rintro (h | h)
      · rw [← List.take_append_drop (lbR x l) l, List.mem_append] at h
        exact h.elim (fun h => .inl (.inl h)) .inr
      · exact .inl (.inr h)
theorem leR_lt {x y : Rx} : leR x y = true ∧ x ≠ y ↔ cmpR x y < 0 := by
  rw [leR_iff]
  constructor
  · rintro ⟨h, hn⟩
    rcases Int.lt_or_eq_of_le h with h | h
    · exact h
    · exact absurd (cmpR_zero _ _ h) hn
  · exact fun h => ⟨by omega, fun e => by rw [e] at h; exact cmpR_irr _ h⟩
theorem rput_srt {x : Rx} {l : List Rx} (hs : Srt leR l) : Srt leR (rput l x) := by
  unfold rput
  split
  · exact hs
  · next hq =>
    have hlow : ∀ a ∈ l.take (lbR x l), cmpR a x < 0 := fun a ha => by
      obtain ⟨j, hj, _, rfl⟩ := mem_take_getD ha
      exact lbR_lt hj
    have hhigh : ∀ a ∈ l.drop (lbR x l), cmpR x a < 0 := fun a ha => by
      obtain ⟨j, hj, e⟩ := List.getElem_of_mem ha
      rw [List.length_drop] at hj
      have h0 : lbR x l < l.length := by omega
      have h1 := lbR_at h0
      have h2 : ¬ cmpR (l.getD (lbR x l) default) x = 0 := fun q => hq ⟨h0, q⟩
      have h3 : cmpR x (l.getD (lbR x l) default) < 0 := by have := cmpR_neg (l.getD (lbR x l) default) x; omega
      rw [List.getElem_drop, ← getD_el (by omega)] at e
      rw [← e]
      by_cases hj0 : j = 0
      · rw [hj0, Nat.add_zero]; exact h3
      · exact cmpR_trans _ _ _ h3 (leR_lt.1 (pair_getD hs (by omega) (by omega)))
    have hs' := hs
    unfold Srt at hs' ⊢
    rw [List.append_assoc, List.pairwise_append]
    refine ⟨List.Pairwise.take hs', ?_, ?_⟩
    · rw [List.singleton_append, List.pairwise_cons]
      exact ⟨fun a ha => leR_lt.2 (hhigh a ha), List.Pairwise.drop hs'⟩
    · intro a ha b hb
      rw [List.singleton_append] at hb
      rcases List.mem_cons.1 hb with rfl | hb
      · exact leR_lt.2 (hlow a ha)
      · exact leR_lt.2 (cmpR_trans _ _ _ (hlow a ha) (hhigh b hb))
def rOut1 (o : List Rx) (x : Rx) : List Rx := if x.kind = 1 then o else if 2 < x.kind then rput o x else o
def rOut (L : List Rx) : List Rx := L.foldl rOut1 []
def rOth1 (b : Bool) (x : Rx) : Bool := if x.kind = 1 then b else if 2 < x.kind then b || accR x else b
def rOth (L : List Rx) : Bool := L.foldl rOth1 false
def rEmp (L : List Rx) : Bool := L.any fun x => decide (x.kind = 1)
def rIs (L : List Rx) (v : Nat) : Bool := L.any fun x => x.syms.any fun z => decide (z = v)
def rSyms (L : List Rx) (n : Nat) : List Int := ((List.range n).filter (rIs L)).map fun v : Nat => (v : Int)
def rAlt2 (L : List Rx) : List Rx := if 0 < (rSyms L 64).length then rput (rOut L) (.mk 2 (rSyms L 64) []) else rOut L
def rAlt3 (L : List Rx) : List Rx := if rEmp L = true ∧ rOth L = false then rput (rAlt2 L) emptyRx else rAlt2 L
def rAlt (l : List Rx) : Rx := altE (rAlt3 (altL l))
theorem foldl_snoc {α β : Type} [Inhabited β] {f : α → β → α} {a : α} {l : List β} {i : Nat} (h : i < l.length) : (l.take (i + 1)).foldl f a = f ((l.take i).foldl f a) (l.getD i default) := by
  rw [take_succ' h, List.foldl_append]; rfl
theorem rOut_spec : ∀ (L o : List Rx), Srt leR o → Srt leR (L.foldl rOut1 o) ∧ ∀ y, y ∈ L.foldl rOut1 o ↔ y ∈ o ∨ (y ∈ L ∧ 2 < y.kind)
  | [], o, h => ⟨h, fun y => ⟨.inl, fun q => q.elim id fun q => by cases q.1⟩⟩
  | x :: L, o, h => by
    have h1 : Srt leR (rOut1 o x) := by unfold rOut1; split; exact h; split; exact rput_srt h; exact h
    obtain ⟨h2, h3⟩ := rOut_spec L (rOut1 o x) h1
    refine ⟨h2, fun y => (h3 y).trans ?_⟩
    have h4 : y ∈ rOut1 o x ↔ y ∈ o ∨ (y = x ∧ 2 < x.kind) := by
      unfold rOut1
      split
      · exact ⟨.inl, fun q => q.elim id fun q => by omega⟩
      · split
        · next hk => rw [rput_mem]; exact or_congr_right ⟨fun e => ⟨e, hk⟩, fun e => e.1⟩
        · next hk => exact ⟨.inl, fun q => q.elim id fun q => absurd q.2 hk⟩
    rw [h4, List.mem_cons]
    constructor
    · rintro ((q | ⟨rfl, q⟩) | ⟨q, q2⟩)
      · exact .inl q
      · exact .inr ⟨.inl rfl, q⟩
      · exact .inr ⟨.inr q, q2⟩
    · rintro (q | ⟨rfl | q, q2⟩)
      · exact .inl (.inl q)
      · exact .inl (.inr ⟨rfl, q2⟩)
      · exact .inr ⟨q, q2⟩
theorem rOth_spec : ∀ (L : List Rx) (b : Bool), L.foldl rOth1 b = true ↔ b = true ∨ ∃ x ∈ L, 2 < x.kind ∧ accR x = true
  | [], b => ⟨.inl, fun q => q.elim id fun ⟨x, hx, _⟩ => by cases hx⟩
  | x :: L, b => by
    rw [List.foldl_cons, rOth_spec L]
    have h : rOth1 b x = true ↔ b = true ∨ (2 < x.kind ∧ accR x = true) := by
      unfold rOth1
      split
      · exact ⟨.inl, fun q => q.elim id fun q => by omega⟩
      · split
        · next hk => rw [Bool.or_eq_true]; exact or_congr_right ⟨fun e => ⟨hk, e⟩, fun e => e.2⟩
        · next hk => exact ⟨.inl, fun q => q.elim id fun q => absurd q.1 hk⟩
    rw [h]
    constructor
    · rintro ((q | q) | ⟨y, hy, q⟩)
      · exact .inl q
      · exact .inr ⟨x, List.mem_cons_self, q⟩
      · exact .inr ⟨y, List.mem_cons_of_mem _ hy, q⟩
    · rintro (q | ⟨y, hy, q⟩)
      · exact .inl (.inl q)
      · rcases List.mem_cons.1 hy with rfl | hy
        · exact .inl (.inr q)
        · exact .inr ⟨y, hy, q⟩
theorem rSyms_srt (L : List Rx) (n : Nat) : Srt leI (rSyms L n) := by
  unfold rSyms Srt
  rw [List.pairwise_map]
  refine List.Pairwise.imp (fun {a b} h => ⟨decide_eq_true (by omega), by omega⟩) (List.Pairwise.filter _ (List.pairwise_lt_range (n := n)))
theorem rSyms_mem {L : List Rx} {n : Nat} {z : Int} : z ∈ rSyms L n ↔ (0 ≤ z ∧ z < n) ∧ ∃ x ∈ L, z ∈ x.syms := by
  unfold rSyms rIs
  rw [List.mem_map]
  constructor
  · rintro ⟨v, hv, rfl⟩
    rw [List.mem_filter, List.mem_range, List.any_eq_true] at hv
    obtain ⟨h1, x, hx, h2⟩ := hv
    obtain ⟨z, hz, e⟩ := List.any_eq_true.1 h2
    exact ⟨by omega, x, hx, by rw [← of_decide_eq_true e]; exact hz⟩
  · rintro ⟨h, x, hx, hz⟩
    refine ⟨z.toNat, List.mem_filter.2 ⟨List.mem_range.2 (by omega), List.any_eq_true.2 ⟨x, hx, List.any_eq_true.2 ⟨z, hz, decide_eq_true (by omega)⟩⟩⟩, by omega⟩
theorem nf_set {x : Rx} (h : Nf x) {z : Int} (hz : z ∈ x.syms) : x.kind = 2 := by
  cases h <;> first | rfl | cases hz
theorem rAlt_eq {l : List Rx} (h : ∀ x ∈ l, Nf x) : rAlt l = altN l := by
  have hL : ∀ y ∈ altL l, Nf y ∧ y.kind ≠ 4 := fun y hy => altL_nf h hy
  have hz : ∀ z, z ∈ rSyms (altL l) 64 ↔ z ∈ altS l := fun z => by
    rw [rSyms_mem, altS_mem]
    constructor
    · rintro ⟨_, x, hx, hz⟩
      exact ⟨x, hx, nf_set (hL x hx).1 hz, hz⟩
    · rintro ⟨x, hx, hk, hz⟩
      have := altS_ok h (altS_mem.2 ⟨x, hx, hk, hz⟩)
      exact ⟨by omega, x, hx, hz⟩
  have hs : rSyms (altL l) 64 = uniI (altS l) := srt_ext leI_an (rSyms_srt _ _) (uniI_srt _) fun z => by rw [hz, uniI_mem]
  have h0 : 0 < (rSyms (altL l) 64).length ↔ 0 < (altS l).length := by
    rw [List.length_pos_iff_exists_mem, List.length_pos_iff_exists_mem]; exact exists_congr hz
  obtain ⟨h1, h2⟩ := rOut_spec (altL l) [] List.Pairwise.nil
  have h3 : Srt leR (rAlt2 (altL l)) ∧ ∀ y, y ∈ rAlt2 (altL l) ↔ y ∈ altD l ∧ y.kind ≠ 1 := by
    have hD : ∀ y, (y ∈ altL l ∧ 2 < y.kind ∨ (0 < (altS l).length ∧ y = .mk 2 (uniI (altS l)) [])) ↔ y ∈ altD l ∧ y.kind ≠ 1 := fun y => by
      rw [altD_uni, uniR_mem, altM_mem, altK_mem]
      constructor
      · rintro (⟨q1, q2⟩ | ⟨q1, rfl⟩)
        · exact ⟨.inl ⟨q1, by omega, by omega⟩, by omega⟩
        · exact ⟨.inr ⟨q1, rfl⟩, by show ¬ (2 : Int) = 1; decide⟩
      · rintro ⟨⟨q1, q2, q3⟩ | ⟨q1, rfl⟩, q4⟩
        · have := (hL y q1).1.kinds
          exact .inl ⟨q1, by omega⟩
        · exact .inr ⟨q1, rfl⟩
    unfold rAlt2
    by_cases q : 0 < (rSyms (altL l) 64).length
    · rw [if_pos q]
      refine ⟨rput_srt h1, fun y => ?_⟩
      rw [← hD, rput_mem, show (y ∈ rOut (altL l)) ↔ _ from h2 y, hs]
      constructor
      · rintro ((q1 | q1) | q1)
        · cases q1
        · exact .inl q1
        · exact .inr ⟨h0.1 q, q1⟩
      · rintro (q1 | q1)
        · exact .inl (.inr q1)
        · exact .inr q1.2
    · rw [if_neg q]
      refine ⟨h1, fun y => ?_⟩
      rw [← hD, show (y ∈ rOut (altL l)) ↔ _ from h2 y]
      constructor
      · rintro (q1 | q1)
        · cases q1
        · exact .inl q1
      · rintro (q1 | q1)
        · exact .inr q1
        · exact absurd (h0.2 q1.1) q
  have hn := fun x (hx : x ∈ altD l) => altD_nf h (y := x) hx
  have h4 : Srt leR (rAlt3 (altL l)) ∧ ∀ y, y ∈ rAlt3 (altL l) ↔ y ∈ altC (altD l) := by
    have hC : ∀ y, y ∈ altC (altD l) ↔ _ := fun y => altC_mem (uniR_srt _) (fun x hx => ⟨(hn x hx).1, (hn x hx).2.1⟩)
    have hO : rOth (altL l) = true ↔ ∃ y ∈ altD l, y.kind ≠ 1 ∧ accR y = true := by
      rw [show (rOth (altL l) = true) ↔ _ from rOth_spec (altL l) false]
      constructor
      · rintro (q | ⟨x, hx, hk, ha⟩)
        · cases q
        · exact ⟨x, by rw [altD_uni, uniR_mem, altM_mem, altK_mem]; exact .inl ⟨hx, by omega, by omega⟩, by omega, ha⟩
      · rintro ⟨y, hy, hk, ha⟩
        rw [altD_uni, uniR_mem, altM_mem, altK_mem] at hy
        rcases hy with ⟨q1, q2, q3⟩ | ⟨q1, rfl⟩
        · have := (hL y q1).1.kinds
          exact .inr ⟨y, q1, by omega, ha⟩
        · rw [accR_eq, if_neg (by show ¬ (2 : Int) = 3; decide), if_neg (by show ¬ (2 : Int) = 4; decide)] at ha
          exact absurd (of_decide_eq_true ha) (by show ¬ ((2 : Int) = 1 ∨ (2 : Int) = 5); decide)
    have hE : rEmp (altL l) = true ↔ emptyRx ∈ altD l := by
      unfold rEmp
      rw [List.any_eq_true, altD_uni, uniR_mem, altM_mem, altK_mem]
      constructor
      · rintro ⟨x, hx, hk⟩
        rw [← (hL x hx).1.k1 (of_decide_eq_true hk)]
        have := of_decide_eq_true hk
        exact .inl ⟨hx, by omega, by omega⟩
      · rintro (⟨q, _⟩ | ⟨_, q⟩)
        · exact ⟨_, q, decide_eq_true rfl⟩
        · injection q with q; exact absurd q (by decide)
    have h1' : ∀ y ∈ altD l, y.kind = 1 → y = emptyRx := fun y hy hk => (hn y hy).1.k1 hk
    unfold rAlt3
    by_cases q : rEmp (altL l) = true ∧ rOth (altL l) = false
    · rw [if_pos q]
      refine ⟨rput_srt h3.1, fun y => ?_⟩
      rw [rput_mem, h3.2, hC]
      constructor
      · rintro (q1 | rfl)
        · exact ⟨q1.1, fun q2 => q1.2 q2.1⟩
        · exact ⟨hE.1 q.1, fun q2 => by rw [hO.2 q2.2] at q; cases q.2⟩
      · rintro ⟨q1, q2⟩
        by_cases hk : y.kind = 1
        · exact .inr (h1' y q1 hk)
        · exact .inl ⟨q1, hk⟩
    · rw [if_neg q]
      refine ⟨h3.1, fun y => ?_⟩
      rw [h3.2, hC]
      constructor
      · exact fun q1 => ⟨q1.1, fun q2 => q1.2 q2.1⟩
      · rintro ⟨q1, q2⟩
        refine ⟨q1, fun hk => ?_⟩
        have he : rEmp (altL l) = true := hE.2 (by rw [← h1' y q1 hk]; exact q1)
        cases ho : rOth (altL l) with
        | true => exact q2 ⟨hk, hO.1 ho⟩
        | false => exact q ⟨he, ho⟩
  have h5 : Srt leR (altC (altD l)) := (altC_nf (uniR_srt _) hn fun x hx y hy => altD_two (l := l) hx hy).2.1
  unfold rAlt altN
  rw [srt_ext leR_an h4.1 h5 h4.2]
theorem altN_one {y : Rx} (h : Nf y) (hk : y.kind ≠ 0 ∧ y.kind ≠ 4) : altN [y] = y := by
  have hm : ∀ x ∈ [y], x = y := fun x hx => List.mem_singleton.1 hx
  unfold altN
  rw [altD_self (l := [y]) (fun x hx => by rw [hm x hx]; exact h) (fun x hx => by rw [hm x hx]; exact hk) (List.pairwise_singleton _ _) (fun x hx z hz _ _ => by rw [hm x hx, hm z hz]), altC_f (fun q => absurd q.1 (by simp)), altE_1 rfl]; rfl
def rStar (x : Rx) : Rx := if x.kind = 0 ∨ x.kind = 1 then emptyRx else if x.kind = 5 then x else .mk 5 [] [if x.kind = 4 then rAlt (x.kids.filter fun y => !decide (y.kind = 1)) else x]
theorem rStar_eq {x : Rx} (h : Nf x) : rStar x = starN x := by
  unfold rStar
  by_cases h01 : x.kind = 0 ∨ x.kind = 1
  · rw [if_pos h01, starN_e h01]
  · rw [if_neg h01]
    by_cases h5 : x.kind = 5
    · rw [if_pos h5, starN_5 h5]
    · rw [if_neg h5, starN_x h01 h5]
      by_cases h4 : x.kind = 4
      · rw [if_pos h4]
        obtain ⟨e, h2, hn, hk4, hs, ht, ha⟩ := h.k4 h4
        rw [rAlt_eq fun y hy => hn y (List.mem_filter.1 hy).1]
        have hself : ∀ l : List Rx, 2 ≤ l.length → l.Sublist x.kids → altN l = .mk 4 [] l := fun l hl hsub =>
          altN_self hl (fun y hy => hn y (hsub.subset hy)) (fun y hy => hk4 y (hsub.subset hy)) (List.Pairwise.sublist hsub hs) (fun y hy z hz => ht y (hsub.subset hy) z (hsub.subset hz))
            fun y hy hy1 z hz => ha y (hsub.subset hy) hy1 z (hsub.subset hz)
        by_cases q : (x.kids.getD 0 default).kind = 1
        · have hf : x.kids.filter (fun y => !decide (y.kind = 1)) = x.kids.drop 1 := by
            match hk : x.kids, h2 with
            | y :: l, _ =>
              rw [hk] at q hs hn hk4
              rw [List.filter_cons_of_neg (by have : y.kind = 1 := q; simp [this])]
              show l.filter _ = l
              refine List.filter_eq_self.2 fun z hz => ?_
              have h6 := srt_drop hs (x := z) hz
              have h7 : ¬ z.kind = 1 := fun hz1 => h6.1 (empty_first hs (fun x hx => ⟨hn x hx, (hk4 x hx).1⟩) h6.2 hz1).symm
              simp [h7]
          rw [hf]
          by_cases q2 : x.kids.length = 2
          · rw [starB_2 ⟨h4, q⟩ q2]
            have hl : x.kids.drop 1 = [x.kids.getD 1 default] := by rw [drop_cons (by omega), List.drop_of_length_le (by omega)]
            have hm : x.kids.getD 1 default ∈ x.kids := kid_mem (by omega)
            rw [hl]
            have h8 := build_id (hn _ hm)
            have h9 : rAlt [x.kids.getD 1 default] = altN [x.kids.getD 1 default] := rAlt_eq fun y hy => by rw [List.mem_singleton.1 hy]; exact hn _ hm
            rw [altN_one (hn _ hm) (hk4 _ hm)]
          · rw [starB_m ⟨h4, q⟩ q2, hself _ (by rw [List.length_drop]; omega) (List.drop_sublist _ _), h4]
            have es : x.syms = [] := by rw [e]; rfl
            rw [es]
        · rw [starB_n fun p => q p.2]
          have hf : x.kids.filter (fun y => !decide (y.kind = 1)) = x.kids := by
            refine List.filter_eq_self.2 fun z hz => ?_
            have h7 : ¬ z.kind = 1 := fun hz1 => q (by rw [empty_first hs (fun x hx => ⟨hn x hx, (hk4 x hx).1⟩) hz hz1]; exact hz1)
            simp [h7]
          rw [hf, hself _ h2 (List.Sublist.refl _), ← e]
      · rw [if_neg h4, starB_n fun p => h4 p.1]
end Go.Wb

namespace Go.Am
open Go.RowKit
set_option linter.unusedVariables false
section
variable {P : Program} {w0 : Fr} {M0 : Nat → Prop} {o : Oper} {ρ : Operand → Option SV} {ob : List (Nat × Ob)} {x y z : Operand} {T e : TypeId} {k id off : Nat} {c : Cls} {cs : List SV}
theorem pure_slice_hm {α : Type} {f : α → AV} {l : List α} {q' : IntKind} {j : Int} (ho : o.op = .slice T x none (some z) none) (hT : P.underlying T = some (.slice e)) (hk : szOf P e = some k) (hx : viewAt ρ ob x = some (c, .sl (l.map f))) (hz : scal ρ z = some (.int q' j))
    (h : 0 ≤ j ∧ j ≤ l.length) (hxk : ∀ z, (AV.cells (f z)).length = k) : Pure P w0 M0 o ρ ob (.v c (.sl ((l.take j.toNat).map f))) := by
  have := pure_slice_h (P := P) (w0 := w0) (M0 := M0) ho hT hk hx hz (by simpa using h) (map_len hxk)
  rwa [← List.map_take] at this
theorem pure_index_box {q : IntKind} {i : Int} {n : Nat} {e' : TypeId} (ho : o.op = .indexAddr T x y) (hT : P.underlying T = some (.array n e)) (hk : szOf P e = some 1) (hx : ρ x = some (.pbox id off)) (hl : ob.lookup id = some (.box e' cs)) (hy : scal ρ y = some (.int q i)) (h : 0 ≤ i ∧ i < n) :
    Pure P w0 M0 o ρ ob (.pbox id (off + i.toNat)) :=
  pure_value fun E w ev hw hh => by
    have hr := hh x _ hx e' cs hl
    have hi := scal_ok hh hy
    have hel : P.elem T = e := by simp [Program.elem, hT]
    have hal : P.arrayLen T = n := by simp [Program.arrayLen, hT]
    have hin : 0 ≤ i ∧ i < (n : Int) := h
    refine ⟨_, w, by simp [execOp, ho, hr, hi, run_indexAt_array, hel, hal, hT, hin, run_size hk, Addr.add_lit]; rfl, .refl _ _, fun e2 cs2 h' => ?_⟩
    rfl
theorem lookup_keeps (p : SV → Bool) : ∀ (X : List (Nat × SV)) (t : Nat) (d : SV), Nodup X = true → X.lookup t = some d → p d = true → (X.filter fun q => p q.2).lookup t = some d
  | [], t, d, _, h, _ => by simp at h
  | (u, e) :: r, t, d, hn, h, hs => by
    rw [lookup_cons'] at h
    simp only [Nodup, Bool.and_eq_true, Bool.not_eq_true'] at hn
    rw [List.filter_cons]
    by_cases q : t = u
    · rw [if_pos q] at h
      simp only [Option.some.injEq] at h
      subst h
      rw [if_pos hs, lookup_cons', if_pos q]
    · rw [if_neg q] at h
      have ih := lookup_keeps p r t d hn.2 h hs
      split
      · rw [lookup_cons', if_neg q]; exact ih
      · exact ih
theorem all_stays {G : List (Nat × SV)} {t : Nat} (h : (G.all fun p => p.2.stays true t || Nat.beq p.1 t) = true) {u : Nat} {d : SV} (hl : G.lookup u = some d) (hne : u ≠ t) : d.stays true t = true := by
  have := List.all_eq_true.1 h _ (lookup_mem hl)
  rw [Bool.or_eq_true] at this
  rcases this with h1 | h1
  · exact h1
  · exact absurd (Nat.eq_of_beq_eq_true h1) hne
theorem step_apn {α : Type} {f : α → AV} {l : List α} {X : List (Nat × SV)} {o1 o2 : List (Nat × Ob)} {n t u v b : Nat} (ho : o.op = .call { callee := .builtin .append, args := #[.tmp u, .tmp v], argTypes := #[T, T] }) (hd : o.dst = some t) (hn : Nat.blt t n = true) (hnd : Nodup X = true)
    (hT : P.underlying T = some (.slice e)) (hel : elOk P e k b = true) (hu : X.lookup u = some (.v c (.sc (.slice none 0 0)))) (hv : X.lookup v = some (.v .pl (.sl (l.map f)))) (hf : ∀ z, (AV.cells (f z)).length = k)
    (hb : (l.map f).length * b ≤ 140737488355328) (hm : (l.map f).length ≤ 4611686018427387904) (hs : ∀ t' d, X.lookup t' = some d → t' ≠ t → d.stays true t = true) (ho2 : ins t (.arr e (l.map f)) (killO true t o1) = o2) (hM0 : ∀ b, M0 b → b < w0.w.heap.size) :
    ∃ s', Step P w0 M0 o ⟨n, X, o1⟩ s' ∧ Imp P w0 M0 s' ⟨n, ins t (.own t) X, o2⟩ := by
  have h1 : scal (⟨n, X, o1⟩ : St).ev (.tmp u) = some (.slice none 0 0) := by simp only [scal, St.ev, hu]; rfl
  have h2 : viewAt (⟨n, X, o1⟩ : St).ev (⟨n, X, o1⟩ : St).o (.tmp v) = some (.pl, .sl (l.map f)) := by simp only [viewAt, St.ev, hv]; rfl
  refine ⟨_, step_append_nil (s := ⟨n, X, o1⟩) (ys := l.map f) ho hd hn hnd hT hel h1 hM0 (src_plm h2 hf) hb hm, ?_⟩
  refine imp_slots rfl ho2.symm fun t' d ht' => ?_
  rw [lookup_ins] at ht'
  show (ins t (SV.own t) _).lookup t' = some d
  rw [lookup_ins]
  by_cases q : t' = t
  · rw [if_pos q] at ht' ⊢; exact ht'
  · rw [if_neg q] at ht' ⊢
    exact lookup_keeps (fun e => e.stays true t) X t' d hnd ht' (hs t' d ht' q)
end
end Go.Am

