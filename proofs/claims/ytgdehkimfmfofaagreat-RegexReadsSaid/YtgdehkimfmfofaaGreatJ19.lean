/-
  Plain functions: the reference's repetitions and normal forms, step by step.
-/
import Derived.Test.YtgdehkimfmfofaaGreatJ18
import Derived.Test.YtgdehkimfmfofaaGreatJ10
set_option linter.unusedVariables false
set_option linter.unusedSimpArgs false
namespace Go.Wb
set_option linter.unusedVariables false
set_option linter.unusedSimpArgs false
open Go.Am
def lbR (x : Rx) (l : List Rx) : Nat := l.findIdx fun y => !decide (cmpR y x < 0)
def rput (l : List Rx) (x : Rx) : List Rx := if lbR x l < l.length ∧ cmpR (l.getD (lbR x l) default) x = 0 then l else l.take (lbR x l) ++ [x] ++ l.drop (lbR x l)
theorem lbR_is {x : Rx} {l : List Rx} {i : Nat} (hi : i ≤ l.length) (h1 : ∀ k, k < i → cmpR (l.getD k default) x < 0) (h2 : i < l.length → ¬ cmpR (l.getD i default) x < 0) : lbR x l = i := by
  rcases Nat.lt_or_ge i l.length with h | h
  · refine (List.findIdx_eq h).2 ⟨?_, fun j hj => ?_⟩
    · have := h2 h; rw [getD_el h] at this; simp [this]
    · have := h1 j hj; rw [getD_el (by omega)] at this; simp [this]
  · have hi' : i = l.length := by omega
    subst hi'
    refine List.findIdx_eq_length.2 fun x' hx => ?_
    obtain ⟨j, hj, e⟩ := List.getElem_of_mem hx
    have := h1 j hj
    rw [getD_el hj, e] at this
    simp [this]
theorem rput_same {x : Rx} {l : List Rx} {i : Nat} (hi : i < l.length) (h1 : ∀ k, k < i → cmpR (l.getD k default) x < 0) (h2 : cmpR (l.getD i default) x = 0) : rput l x = l := by
  have e := lbR_is (x := x) (l := l) (i := i) (by omega) h1 (fun _ => by omega)
  unfold rput; rw [e, if_pos ⟨hi, h2⟩]
theorem rput_new {x : Rx} {l : List Rx} {i : Nat} (hi : i ≤ l.length) (h1 : ∀ k, k < i → cmpR (l.getD k default) x < 0) (h2 : i < l.length → ¬ cmpR (l.getD i default) x < 0) (h3 : i < l.length → ¬ cmpR (l.getD i default) x = 0) :
    rput l x = l.take i ++ [x] ++ l.drop i := by
  have e := lbR_is hi h1 h2
  unfold rput; rw [e, if_neg fun q => h3 q.1 q.2]
theorem lbR_le (x : Rx) (l : List Rx) : lbR x l ≤ l.length := List.findIdx_le_length
theorem lbR_lt {x : Rx} {l : List Rx} {k : Nat} (h : k < lbR x l) : cmpR (l.getD k default) x < 0 := by
  have h1 := lbR_le x l
  have h2 := List.not_of_lt_findIdx (p := fun y => !decide (cmpR y x < 0)) (xs := l) h
  rw [getD_el (by omega)]
  simpa using h2
theorem lbR_at {x : Rx} {l : List Rx} (h : lbR x l < l.length) : ¬ cmpR (l.getD (lbR x l) default) x < 0 := by
  have h2 := List.findIdx_getElem (p := fun y => !decide (cmpR y x < 0)) (xs := l) (w := h)
  have e : l.getD (lbR x l) default = l[l.findIdx fun y => !decide (cmpR y x < 0)] := getD_el h
  rw [e]
  simpa using h2
theorem rput_mem {x y : Rx} {l : List Rx} : y ∈ rput l x ↔ y ∈ l ∨ y = x := by
  unfold rput
  split
  · next h => exact ⟨.inl, fun q => q.elim id fun e => by rw [e, ← cmpR_zero _ _ h.2]; exact kid_mem h.1⟩
  · rw [List.mem_append, List.mem_append, List.mem_singleton]
    constructor
    · rintro ((h | h) | h)
      · exact .inl (List.mem_of_mem_take h)
      · exact .inr h
      · exact .inl (List.mem_of_mem_drop h)
    · rintro (h | h)
      · rw [← List.take_append_drop (lbR x l) l, List.mem_append] at h
        exact h.elim (fun h => .inl (.inl h)) .inr
      · exact .inl (.inr h)
theorem leR_lt {x y : Rx} : leR x y = true ∧ x ≠ y ↔ cmpR x y < 0 := by
  rw [leR_iff]
  constructor
  · rintro ⟨h, hn⟩
    rcases Int.lt_or_eq_of_le h with h | h
    · exact h
    · exact absurd (cmpR_zero _ _ h) hn
  · exact fun h => ⟨by omega, fun e => by rw [e] at h; exact cmpR_irr _ h⟩
theorem rput_srt {x : Rx} {l : List Rx} (hs : Srt leR l) : Srt leR (rput l x) := by
  unfold rput
  split
  · exact hs
  · next hq =>
    have hlow : ∀ a ∈ l.take (lbR x l), cmpR a x < 0 := fun a ha => by
      obtain ⟨j, hj, _, rfl⟩ := mem_take_getD ha
      exact lbR_lt hj
    have hhigh : ∀ a ∈ l.drop (lbR x l), cmpR x a < 0 := fun a ha => by
      obtain ⟨j, hj, e⟩ := List.getElem_of_mem ha
      rw [List.length_drop] at hj
      have h0 : lbR x l < l.length := by omega
      have h1 := lbR_at h0
      have h2 : ¬ cmpR (l.getD (lbR x l) default) x = 0 := fun q => hq ⟨h0, q⟩
      have h3 : cmpR x (l.getD (lbR x l) default) < 0 := by have := cmpR_neg (l.getD (lbR x l) default) x; omega
      rw [List.getElem_drop, ← getD_el (by omega)] at e
      rw [← e]
      by_cases hj0 : j = 0
      · rw [hj0, Nat.add_zero]; exact h3
      · exact cmpR_trans _ _ _ h3 (leR_lt.1 (pair_getD hs (by omega) (by omega)))
    have hs' := hs
    unfold Srt at hs' ⊢
    rw [List.append_assoc, List.pairwise_append]
    refine ⟨List.Pairwise.take hs', ?_, ?_⟩
    · rw [List.singleton_append, List.pairwise_cons]
      exact ⟨fun a ha => leR_lt.2 (hhigh a ha), List.Pairwise.drop hs'⟩
    · intro a ha b hb
      rw [List.singleton_append] at hb
      rcases List.mem_cons.1 hb with rfl | hb
      · exact leR_lt.2 (hlow a ha)
      · exact leR_lt.2 (cmpR_trans _ _ _ (hlow a ha) (hhigh b hb))
def rOut1 (o : List Rx) (x : Rx) : List Rx := if x.kind = 1 then o else if 2 < x.kind then rput o x else o
def rOut (L : List Rx) : List Rx := L.foldl rOut1 []
def rOth1 (b : Bool) (x : Rx) : Bool := if x.kind = 1 then b else if 2 < x.kind then b || accR x else b
def rOth (L : List Rx) : Bool := L.foldl rOth1 false
def rEmp (L : List Rx) : Bool := L.any fun x => decide (x.kind = 1)
def rIs (L : List Rx) (v : Nat) : Bool := L.any fun x => x.syms.any fun z => decide (z = v)
def rSyms (L : List Rx) (n : Nat) : List Int := ((List.range n).filter (rIs L)).map fun v : Nat => (v : Int)
def rAlt2 (L : List Rx) : List Rx := if 0 < (rSyms L 64).length then rput (rOut L) (.mk 2 (rSyms L 64) []) else rOut L
def rAlt3 (L : List Rx) : List Rx := if rEmp L = true ∧ rOth L = false then rput (rAlt2 L) emptyRx else rAlt2 L
def rAlt (l : List Rx) : Rx := altE (rAlt3 (altL l))
theorem foldl_snoc {α β : Type} [Inhabited β] {f : α → β → α} {a : α} {l : List β} {i : Nat} (h : i < l.length) : (l.take (i + 1)).foldl f a = f ((l.take i).foldl f a) (l.getD i default) := by
  rw [take_succ' h, List.foldl_append]; rfl
theorem rOut_spec : ∀ (L o : List Rx), Srt leR o → Srt leR (L.foldl rOut1 o) ∧ ∀ y, y ∈ L.foldl rOut1 o ↔ y ∈ o ∨ (y ∈ L ∧ 2 < y.kind)
  | [], o, h => ⟨h, fun y => ⟨.inl, fun q => q.elim id fun q => by cases q.1⟩⟩
  | x :: L, o, h => by
    have h1 : Srt leR (rOut1 o x) := by unfold rOut1; split; exact h; split; exact rput_srt h; exact h
    obtain ⟨h2, h3⟩ := rOut_spec L (rOut1 o x) h1
    refine ⟨h2, fun y => (h3 y).trans ?_⟩
    have h4 : y ∈ rOut1 o x ↔ y ∈ o ∨ (y = x ∧ 2 < x.kind) := by
      unfold rOut1
      split
      · exact ⟨.inl, fun q => q.elim id fun q => by omega⟩
      · split
        · next hk => rw [rput_mem]; exact or_congr_right ⟨fun e => ⟨e, hk⟩, fun e => e.1⟩
        · next hk => exact ⟨.inl, fun q => q.elim id fun q => absurd q.2 hk⟩
    rw [h4, List.mem_cons]
    constructor
    · rintro ((q | ⟨rfl, q⟩) | ⟨q, q2⟩)
      · exact .inl q
      · exact .inr ⟨.inl rfl, q⟩
      · exact .inr ⟨.inr q, q2⟩
    · rintro (q | ⟨rfl | q, q2⟩)
      · exact .inl (.inl q)
      · exact .inl (.inr ⟨rfl, q2⟩)
      · exact .inr ⟨q, q2⟩
theorem rOth_spec : ∀ (L : List Rx) (b : Bool), L.foldl rOth1 b = true ↔ b = true ∨ ∃ x ∈ L, 2 < x.kind ∧ accR x = true
  | [], b => ⟨.inl, fun q => q.elim id fun ⟨x, hx, _⟩ => by cases hx⟩
  | x :: L, b => by
    rw [List.foldl_cons, rOth_spec L]
    have h : rOth1 b x = true ↔ b = true ∨ (2 < x.kind ∧ accR x = true) := by
      unfold rOth1
      split
      · exact ⟨.inl, fun q => q.elim id fun q => by omega⟩
      · split
        · next hk => rw [Bool.or_eq_true]; exact or_congr_right ⟨fun e => ⟨hk, e⟩, fun e => e.2⟩
        · next hk => exact ⟨.inl, fun q => q.elim id fun q => absurd q.1 hk⟩
    rw [h]
    constructor
    · rintro ((q | q) | ⟨y, hy, q⟩)
      · exact .inl q
      · exact .inr ⟨x, List.mem_cons_self, q⟩
      · exact .inr ⟨y, List.mem_cons_of_mem _ hy, q⟩
    · rintro (q | ⟨y, hy, q⟩)
      · exact .inl (.inl q)
      · rcases List.mem_cons.1 hy with rfl | hy
        · exact .inl (.inr q)
        · exact .inr ⟨y, hy, q⟩
theorem rSyms_srt (L : List Rx) (n : Nat) : Srt leI (rSyms L n) := by
  unfold rSyms Srt
  rw [List.pairwise_map]
  refine List.Pairwise.imp (fun {a b} h => ⟨decide_eq_true (by omega), by omega⟩) (List.Pairwise.filter _ (List.pairwise_lt_range (n := n)))
theorem rSyms_mem {L : List Rx} {n : Nat} {z : Int} : z ∈ rSyms L n ↔ (0 ≤ z ∧ z < n) ∧ ∃ x ∈ L, z ∈ x.syms := by
  unfold rSyms rIs
  rw [List.mem_map]
  constructor
  · rintro ⟨v, hv, rfl⟩
    rw [List.mem_filter, List.mem_range, List.any_eq_true] at hv
    obtain ⟨h1, x, hx, h2⟩ := hv
    obtain ⟨z, hz, e⟩ := List.any_eq_true.1 h2
    exact ⟨by omega, x, hx, by rw [← of_decide_eq_true e]; exact hz⟩
  · rintro ⟨h, x, hx, hz⟩
    refine ⟨z.toNat, List.mem_filter.2 ⟨List.mem_range.2 (by omega), List.any_eq_true.2 ⟨x, hx, List.any_eq_true.2 ⟨z, hz, decide_eq_true (by omega)⟩⟩⟩, by omega⟩
theorem nf_set {x : Rx} (h : Nf x) {z : Int} (hz : z ∈ x.syms) : x.kind = 2 := by
  cases h <;> first | rfl | cases hz
theorem rAlt_eq {l : List Rx} (h : ∀ x ∈ l, Nf x) : rAlt l = altN l := by
  have hL : ∀ y ∈ altL l, Nf y ∧ y.kind ≠ 4 := fun y hy => altL_nf h hy
  have hz : ∀ z, z ∈ rSyms (altL l) 64 ↔ z ∈ altS l := fun z => by
    rw [rSyms_mem, altS_mem]
    constructor
    · rintro ⟨_, x, hx, hz⟩
      exact ⟨x, hx, nf_set (hL x hx).1 hz, hz⟩
    · rintro ⟨x, hx, hk, hz⟩
      have := altS_ok h (altS_mem.2 ⟨x, hx, hk, hz⟩)
      exact ⟨by omega, x, hx, hz⟩
  have hs : rSyms (altL l) 64 = uniI (altS l) := srt_ext leI_an (rSyms_srt _ _) (uniI_srt _) fun z => by rw [hz, uniI_mem]
  have h0 : 0 < (rSyms (altL l) 64).length ↔ 0 < (altS l).length := by
    rw [List.length_pos_iff_exists_mem, List.length_pos_iff_exists_mem]; exact exists_congr hz
  obtain ⟨h1, h2⟩ := rOut_spec (altL l) [] List.Pairwise.nil
  have h3 : Srt leR (rAlt2 (altL l)) ∧ ∀ y, y ∈ rAlt2 (altL l) ↔ y ∈ altD l ∧ y.kind ≠ 1 := by
    have hD : ∀ y, (y ∈ altL l ∧ 2 < y.kind ∨ (0 < (altS l).length ∧ y = .mk 2 (uniI (altS l)) [])) ↔ y ∈ altD l ∧ y.kind ≠ 1 := fun y => by
      rw [altD_uni, uniR_mem, altM_mem, altK_mem]
      constructor
      · rintro (⟨q1, q2⟩ | ⟨q1, rfl⟩)
        · exact ⟨.inl ⟨q1, by omega, by omega⟩, by omega⟩
        · exact ⟨.inr ⟨q1, rfl⟩, by show ¬ (2 : Int) = 1; decide⟩
      · rintro ⟨⟨q1, q2, q3⟩ | ⟨q1, rfl⟩, q4⟩
        · have := (hL y q1).1.kinds
          exact .inl ⟨q1, by omega⟩
        · exact .inr ⟨q1, rfl⟩
    unfold rAlt2
    by_cases q : 0 < (rSyms (altL l) 64).length
    · rw [if_pos q]
      refine ⟨rput_srt h1, fun y => ?_⟩
      rw [← hD, rput_mem, show (y ∈ rOut (altL l)) ↔ _ from h2 y, hs]
      constructor
      · rintro ((q1 | q1) | q1)
        · cases q1
        · exact .inl q1
        · exact .inr ⟨h0.1 q, q1⟩
      · rintro (q1 | q1)
        · exact .inl (.inr q1)
        · exact .inr q1.2
    · rw [if_neg q]
      refine ⟨h1, fun y => ?_⟩
      rw [← hD, show (y ∈ rOut (altL l)) ↔ _ from h2 y]
      constructor
      · rintro (q1 | q1)
        · cases q1
        · exact .inl q1
      · rintro (q1 | q1)
        · exact .inr q1
        · exact absurd (h0.2 q1.1) q
  have hn := fun x (hx : x ∈ altD l) => altD_nf h (y := x) hx
  have h4 : Srt leR (rAlt3 (altL l)) ∧ ∀ y, y ∈ rAlt3 (altL l) ↔ y ∈ altC (altD l) := by
    have hC : ∀ y, y ∈ altC (altD l) ↔ _ := fun y => altC_mem (uniR_srt _) (fun x hx => ⟨(hn x hx).1, (hn x hx).2.1⟩)
    have hO : rOth (altL l) = true ↔ ∃ y ∈ altD l, y.kind ≠ 1 ∧ accR y = true := by
      rw [show (rOth (altL l) = true) ↔ _ from rOth_spec (altL l) false]
      constructor
      · rintro (q | ⟨x, hx, hk, ha⟩)
        · cases q
        · exact ⟨x, by rw [altD_uni, uniR_mem, altM_mem, altK_mem]; exact .inl ⟨hx, by omega, by omega⟩, by omega, ha⟩
      · rintro ⟨y, hy, hk, ha⟩
        rw [altD_uni, uniR_mem, altM_mem, altK_mem] at hy
        rcases hy with ⟨q1, q2, q3⟩ | ⟨q1, rfl⟩
        · have := (hL y q1).1.kinds
          exact .inr ⟨y, q1, by omega, ha⟩
        · rw [accR_eq, if_neg (by show ¬ (2 : Int) = 3; decide), if_neg (by show ¬ (2 : Int) = 4; decide)] at ha
          exact absurd (of_decide_eq_true ha) (by show ¬ ((2 : Int) = 1 ∨ (2 : Int) = 5); decide)
    have hE : rEmp (altL l) = true ↔ emptyRx ∈ altD l := by
      unfold rEmp
      rw [List.any_eq_true, altD_uni, uniR_mem, altM_mem, altK_mem]
      constructor
      · rintro ⟨x, hx, hk⟩
        rw [← (hL x hx).1.k1 (of_decide_eq_true hk)]
        have := of_decide_eq_true hk
        exact .inl ⟨hx, by omega, by omega⟩
      · rintro (⟨q, _⟩ | ⟨_, q⟩)
        · exact ⟨_, q, decide_eq_true rfl⟩
        · injection q with q; exact absurd q (by decide)
    have h1' : ∀ y ∈ altD l, y.kind = 1 → y = emptyRx := fun y hy hk => (hn y hy).1.k1 hk
    unfold rAlt3
    by_cases q : rEmp (altL l) = true ∧ rOth (altL l) = false
    · rw [if_pos q]
      refine ⟨rput_srt h3.1, fun y => ?_⟩
      rw [rput_mem, h3.2, hC]
      constructor
      · rintro (q1 | rfl)
        · exact ⟨q1.1, fun q2 => q1.2 q2.1⟩
        · exact ⟨hE.1 q.1, fun q2 => by rw [hO.2 q2.2] at q; cases q.2⟩
      · rintro ⟨q1, q2⟩
        by_cases hk : y.kind = 1
        · exact .inr (h1' y q1 hk)
        · exact .inl ⟨q1, hk⟩
    · rw [if_neg q]
      refine ⟨h3.1, fun y => ?_⟩
      rw [h3.2, hC]
      constructor
      · exact fun q1 => ⟨q1.1, fun q2 => q1.2 q2.1⟩
      · rintro ⟨q1, q2⟩
        refine ⟨q1, fun hk => ?_⟩
        have he : rEmp (altL l) = true := hE.2 (by rw [← h1' y q1 hk]; exact q1)
        cases ho : rOth (altL l) with
        | true => exact q2 ⟨hk, hO.1 ho⟩
        | false => exact q ⟨he, ho⟩
  have h5 : Srt leR (altC (altD l)) := (altC_nf (uniR_srt _) hn fun x hx y hy => altD_two (l := l) hx hy).2.1
  unfold rAlt altN
  rw [srt_ext leR_an h4.1 h5 h4.2]
theorem altN_one {y : Rx} (h : Nf y) (hk : y.kind ≠ 0 ∧ y.kind ≠ 4) : altN [y] = y := by
  have hm : ∀ x ∈ [y], x = y := fun x hx => List.mem_singleton.1 hx
  unfold altN
  rw [altD_self (l := [y]) (fun x hx => by rw [hm x hx]; exact h) (fun x hx => by rw [hm x hx]; exact hk) (List.pairwise_singleton _ _) (fun x hx z hz _ _ => by rw [hm x hx, hm z hz]), altC_f (fun q => absurd q.1 (by simp)), altE_1 rfl]; rfl
def rStar (x : Rx) : Rx := if x.kind = 0 ∨ x.kind = 1 then emptyRx else if x.kind = 5 then x else .mk 5 [] [if x.kind = 4 then rAlt (x.kids.filter fun y => !decide (y.kind = 1)) else x]
theorem rStar_eq {x : Rx} (h : Nf x) : rStar x = starN x := by
  unfold rStar
  by_cases h01 : x.kind = 0 ∨ x.kind = 1
  · rw [if_pos h01, starN_e h01]
  · rw [if_neg h01]
    by_cases h5 : x.kind = 5
    · rw [if_pos h5, starN_5 h5]
    · rw [if_neg h5, starN_x h01 h5]
      by_cases h4 : x.kind = 4
      · rw [if_pos h4]
        obtain ⟨e, h2, hn, hk4, hs, ht, ha⟩ := h.k4 h4
        rw [rAlt_eq fun y hy => hn y (List.mem_filter.1 hy).1]
        have hself : ∀ l : List Rx, 2 ≤ l.length → l.Sublist x.kids → altN l = .mk 4 [] l := fun l hl hsub =>
          altN_self hl (fun y hy => hn y (hsub.subset hy)) (fun y hy => hk4 y (hsub.subset hy)) (List.Pairwise.sublist hsub hs) (fun y hy z hz => ht y (hsub.subset hy) z (hsub.subset hz))
            fun y hy hy1 z hz => ha y (hsub.subset hy) hy1 z (hsub.subset hz)
        by_cases q : (x.kids.getD 0 default).kind = 1
        · have hf : x.kids.filter (fun y => !decide (y.kind = 1)) = x.kids.drop 1 := by
            match hk : x.kids, h2 with
            | y :: l, _ =>
              rw [hk] at q hs hn hk4
              rw [List.filter_cons_of_neg (by have : y.kind = 1 := q; simp [this])]
              show l.filter _ = l
              refine List.filter_eq_self.2 fun z hz => ?_
              have h6 := srt_drop hs (x := z) hz
              have h7 : ¬ z.kind = 1 := fun hz1 => h6.1 (empty_first hs (fun x hx => ⟨hn x hx, (hk4 x hx).1⟩) h6.2 hz1).symm
              simp [h7]
          rw [hf]
          by_cases q2 : x.kids.length = 2
          · rw [starB_2 ⟨h4, q⟩ q2]
            have hl : x.kids.drop 1 = [x.kids.getD 1 default] := by rw [drop_cons (by omega), List.drop_of_length_le (by omega)]
            have hm : x.kids.getD 1 default ∈ x.kids := kid_mem (by omega)
            rw [hl]
            have h8 := build_id (hn _ hm)
            have h9 : rAlt [x.kids.getD 1 default] = altN [x.kids.getD 1 default] := rAlt_eq fun y hy => by rw [List.mem_singleton.1 hy]; exact hn _ hm
            rw [altN_one (hn _ hm) (hk4 _ hm)]
          · rw [starB_m ⟨h4, q⟩ q2, hself _ (by rw [List.length_drop]; omega) (List.drop_sublist _ _), h4]
            have es : x.syms = [] := by rw [e]; rfl
            rw [es]
        · rw [starB_n fun p => q p.2]
          have hf : x.kids.filter (fun y => !decide (y.kind = 1)) = x.kids := by
            refine List.filter_eq_self.2 fun z hz => ?_
            have h7 : ¬ z.kind = 1 := fun hz1 => q (by rw [empty_first hs (fun x hx => ⟨hn x hx, (hk4 x hx).1⟩) hz hz1]; exact hz1)
            simp [h7]
          rw [hf, hself _ h2 (List.Sublist.refl _), ← e]
      · rw [if_neg h4, starB_n fun p => h4 p.1]
end Go.Wb

namespace Go.Am
open Go.RowKit
set_option linter.unusedVariables false
section
variable {P : Program} {w0 : Fr} {M0 : Nat → Prop} {o : Oper} {ρ : Operand → Option SV} {ob : List (Nat × Ob)} {x y z : Operand} {T e : TypeId} {k id off : Nat} {c : Cls} {cs : List SV}
theorem pure_slice_hm {α : Type} {f : α → AV} {l : List α} {q' : IntKind} {j : Int} (ho : o.op = .slice T x none (some z) none) (hT : P.underlying T = some (.slice e)) (hk : szOf P e = some k) (hx : viewAt ρ ob x = some (c, .sl (l.map f))) (hz : scal ρ z = some (.int q' j))
    (h : 0 ≤ j ∧ j ≤ l.length) (hxk : ∀ z, (AV.cells (f z)).length = k) : Pure P w0 M0 o ρ ob (.v c (.sl ((l.take j.toNat).map f))) := by
  have := pure_slice_h (P := P) (w0 := w0) (M0 := M0) ho hT hk hx hz (by simpa using h) (map_len hxk)
  rwa [← List.map_take] at this
theorem pure_index_box {q : IntKind} {i : Int} {n : Nat} {e' : TypeId} (ho : o.op = .indexAddr T x y) (hT : P.underlying T = some (.array n e)) (hk : szOf P e = some 1) (hx : ρ x = some (.pbox id off)) (hl : ob.lookup id = some (.box e' cs)) (hy : scal ρ y = some (.int q i)) (h : 0 ≤ i ∧ i < n) :
    Pure P w0 M0 o ρ ob (.pbox id (off + i.toNat)) :=
  pure_value fun E w ev hw hh => by
    have hr := hh x _ hx e' cs hl
    have hi := scal_ok hh hy
    have hel : P.elem T = e := by simp [Program.elem, hT]
    have hal : P.arrayLen T = n := by simp [Program.arrayLen, hT]
    have hin : 0 ≤ i ∧ i < (n : Int) := h
    refine ⟨_, w, by simp [execOp, ho, hr, hi, run_indexAt_array, hel, hal, hT, hin, run_size hk, Addr.add_lit]; rfl, .refl _ _, fun e2 cs2 h' => ?_⟩
    rfl
theorem lookup_keeps (p : SV → Bool) : ∀ (X : List (Nat × SV)) (t : Nat) (d : SV), Nodup X = true → X.lookup t = some d → p d = true → (X.filter fun q => p q.2).lookup t = some d
  | [], t, d, _, h, _ => by simp at h
  | (u, e) :: r, t, d, hn, h, hs => by
    rw [lookup_cons'] at h
    simp only [Nodup, Bool.and_eq_true, Bool.not_eq_true'] at hn
    rw [List.filter_cons]
    by_cases q : t = u
    · rw [if_pos q] at h
      simp only [Option.some.injEq] at h
      subst h
      rw [if_pos hs, lookup_cons', if_pos q]
    · rw [if_neg q] at h
      have ih := lookup_keeps p r t d hn.2 h hs
      split
      · rw [lookup_cons', if_neg q]; exact ih
      · exact ih
theorem all_stays {G : List (Nat × SV)} {t : Nat} (h : (G.all fun p => p.2.stays true t || Nat.beq p.1 t) = true) {u : Nat} {d : SV} (hl : G.lookup u = some d) (hne : u ≠ t) : d.stays true t = true := by
  have := List.all_eq_true.1 h _ (lookup_mem hl)
  rw [Bool.or_eq_true] at this
  rcases this with h1 | h1
  · exact h1
  · exact absurd (Nat.eq_of_beq_eq_true h1) hne
theorem step_apn {α : Type} {f : α → AV} {l : List α} {X : List (Nat × SV)} {o1 o2 : List (Nat × Ob)} {n t u v b : Nat} (ho : o.op = .call { callee := .builtin .append, args := #[.tmp u, .tmp v], argTypes := #[T, T] }) (hd : o.dst = some t) (hn : Nat.blt t n = true) (hnd : Nodup X = true)
    (hT : P.underlying T = some (.slice e)) (hel : elOk P e k b = true) (hu : X.lookup u = some (.v c (.sc (.slice none 0 0)))) (hv : X.lookup v = some (.v .pl (.sl (l.map f)))) (hf : ∀ z, (AV.cells (f z)).length = k)
    (hb : (l.map f).length * b ≤ 140737488355328) (hm : (l.map f).length ≤ 4611686018427387904) (hs : ∀ t' d, X.lookup t' = some d → t' ≠ t → d.stays true t = true) (ho2 : ins t (.arr e (l.map f)) (killO true t o1) = o2) (hM0 : ∀ b, M0 b → b < w0.w.heap.size) :
    ∃ s', Step P w0 M0 o ⟨n, X, o1⟩ s' ∧ Imp P w0 M0 s' ⟨n, ins t (.own t) X, o2⟩ := by
  have h1 : scal (⟨n, X, o1⟩ : St).ev (.tmp u) = some (.slice none 0 0) := by simp only [scal, St.ev, hu]; rfl
  have h2 : viewAt (⟨n, X, o1⟩ : St).ev (⟨n, X, o1⟩ : St).o (.tmp v) = some (.pl, .sl (l.map f)) := by simp only [viewAt, St.ev, hv]; rfl
  refine ⟨_, step_append_nil (s := ⟨n, X, o1⟩) (ys := l.map f) ho hd hn hnd hT hel h1 hM0 (src_plm h2 hf) hb hm, ?_⟩
  refine imp_slots rfl ho2.symm fun t' d ht' => ?_
  rw [lookup_ins] at ht'
  show (ins t (SV.own t) _).lookup t' = some d
  rw [lookup_ins]
  by_cases q : t' = t
  · rw [if_pos q] at ht' ⊢; exact ht'
  · rw [if_neg q] at ht' ⊢
    exact lookup_keeps (fun e => e.stays true t) X t' d hnd ht' (hs t' d ht' q)
end
end Go.Am

namespace Go.Wb
set_option linter.unusedVariables false
set_option linter.unusedSimpArgs false
open Go.Am
theorem sizes_rput (l : List Rx) (x : Rx) : Rx.sizes (rput l x) ≤ Rx.sizes l + x.size := by
  unfold rput
  split
  · omega
  · have := sizes_take_drop l (lbR x l)
    rw [sizes_append, sizes_append, Rx.sizes, Rx.sizes]; omega
theorem sizes_rOut : ∀ (L o : List Rx), Rx.sizes (L.foldl rOut1 o) ≤ Rx.sizes o + Rx.sizes L
  | [], o => by rw [List.foldl_nil, Rx.sizes]; omega
  | x :: L, o => by
    have h1 := sizes_rOut L (rOut1 o x)
    have h2 : Rx.sizes (rOut1 o x) ≤ Rx.sizes o + x.size := by
      have := sizes_rput o x
      unfold rOut1; split
      · omega
      · split <;> omega
    rw [List.foldl_cons, Rx.sizes]; omega
theorem sizes_out (L : List Rx) : Rx.sizes (rOut L) ≤ Rx.sizes L := by have := sizes_rOut L []; rw [show Rx.sizes [] = 0 from rfl, Nat.zero_add] at this; exact this
theorem rSyms_len (L : List Rx) (n : Nat) : (rSyms L n).length ≤ n := by
  unfold rSyms
  rw [List.length_map]
  exact Nat.le_trans (List.length_filter_le _ _) (by rw [List.length_range]; exact Nat.le_refl _)
theorem sizes_alt2 (L : List Rx) : Rx.sizes (rAlt2 L) ≤ Rx.sizes L + 65 := by
  have h1 := sizes_out L
  have h2 := sizes_rput (rOut L) (.mk 2 (rSyms L 64) [])
  have h3 := rSyms_len L 64
  rw [size_mk, Rx.sizes] at h2
  unfold rAlt2; split <;> omega
theorem sizes_alt3 (L : List Rx) : Rx.sizes (rAlt3 L) ≤ Rx.sizes L + 66 := by
  have h1 := sizes_alt2 L
  have h2 := sizes_rput (rAlt2 L) emptyRx
  rw [show (emptyRx).size = 1 from rfl] at h2
  unfold rAlt3; split <;> omega
section
variable {L : List Rx} {j k v : Nat}
theorem rOut_1 (h : j < L.length) (hk : (L.getD j default).kind = 1) : rOut (L.take (j + 1)) = rOut (L.take j) := by unfold rOut; rw [foldl_snoc h]; exact if_pos hk
theorem rOut_x (h : j < L.length) (hk : 2 < (L.getD j default).kind) : rOut (L.take (j + 1)) = rput (rOut (L.take j)) (L.getD j default) := by
  unfold rOut; rw [foldl_snoc h]; unfold rOut1; rw [if_neg (by omega), if_pos hk]
theorem rOut_0 (h : j < L.length) (hk : ¬ (L.getD j default).kind = 1) (h2 : ¬ 2 < (L.getD j default).kind) : rOut (L.take (j + 1)) = rOut (L.take j) := by
  unfold rOut; rw [foldl_snoc h]; unfold rOut1; rw [if_neg hk, if_neg h2]
theorem rOth_1 (h : j < L.length) (hk : (L.getD j default).kind = 1) : rOth (L.take (j + 1)) = rOth (L.take j) := by unfold rOth; rw [foldl_snoc h]; exact if_pos hk
theorem rOth_t (h : j < L.length) (hk : 2 < (L.getD j default).kind) (ho : rOth (L.take j) = true) : rOth (L.take (j + 1)) = true := by
  unfold rOth at ho ⊢; rw [foldl_snoc h, ho]; unfold rOth1; rw [if_neg (by omega), if_pos hk]; rfl
theorem rOth_f (h : j < L.length) (hk : 2 < (L.getD j default).kind) (ho : rOth (L.take j) = false) : rOth (L.take (j + 1)) = accR (L.getD j default) := by
  unfold rOth at ho ⊢; rw [foldl_snoc h, ho]; unfold rOth1; rw [if_neg (by omega), if_pos hk]; rfl
theorem rOth_0 (h : j < L.length) (hk : ¬ (L.getD j default).kind = 1) (h2 : ¬ 2 < (L.getD j default).kind) : rOth (L.take (j + 1)) = rOth (L.take j) := by
  unfold rOth; rw [foldl_snoc h]; unfold rOth1; rw [if_neg hk, if_neg h2]
theorem rEmp_1 (h : j < L.length) (hk : (L.getD j default).kind = 1) : rEmp (L.take (j + 1)) = true := by
  unfold rEmp; rw [take_succ' h, List.any_append, List.any_cons, decide_eq_true hk, Bool.true_or, Bool.or_true]
theorem rEmp_0 (h : j < L.length) (hk : ¬ (L.getD j default).kind = 1) : rEmp (L.take (j + 1)) = rEmp (L.take j) := by
  unfold rEmp; rw [take_succ' h, List.any_append, List.any_cons, decide_eq_false hk, List.any_nil, Bool.or_false, Bool.or_false]
def rIsAt (L : List Rx) (j k v : Nat) : Bool := rIs (L.take j) v || ((L.getD j default).syms.take k).any fun z => decide (z = (v : Int))
theorem rIsAt_0 : rIsAt L j 0 = rIs (L.take j) := by funext v; unfold rIsAt; simp
theorem rIs_next (h : j < L.length) (hk : (L.getD j default).syms.length ≤ k) : rIs (L.take (j + 1)) = rIsAt L j k := by
  funext v; unfold rIsAt; rw [List.take_of_length_le hk]
  show List.any _ _ = (List.any _ _ || _)
  rw [take_succ' h, List.any_append, List.any_cons, List.any_nil, Bool.or_false]
theorem rIsAt_succ (h : k < (L.getD j default).syms.length) (v : Nat) : rIsAt L j (k + 1) v = (rIsAt L j k v || decide ((L.getD j default).syms.getD k default = (v : Int))) := by
  unfold rIsAt; rw [take_succ' h, List.any_append, List.any_cons, List.any_nil, Bool.or_false, Bool.or_assoc]
def bCells (f : Nat → Bool) : List SV := (List.range 64).map fun v => .v .pl (bool (f v))
theorem bCells_len (f : Nat → Bool) : (bCells f).length = 64 := by unfold bCells; rw [List.length_map, List.length_range]
theorem bCells_get {f : Nat → Bool} (h : v < 64) : (bCells f)[v]? = some (.v .pl (bool (f v))) := by
  unfold bCells; rw [List.getElem?_map, List.getElem?_range h]; rfl
theorem bCells_at {f : Nat → Bool} (h : v < 64) : (bCells f)[0 + (v : Int).toNat]? = some (.v .pl (bool (f v))) := by
  rw [show 0 + (v : Int).toNat = v by omega]; exact bCells_get h
theorem bCells_keep (id : Nat) (f : Nat → Bool) : keepC id (bCells f) = bCells f := by
  unfold keepC bCells
  rw [List.map_map]
  rfl
theorem bCells_step (id : Nat) (h : k < (L.getD j default).syms.length) (hz : 0 ≤ (L.getD j default).syms.getD k default ∧ (L.getD j default).syms.getD k default < 64) :
    spl (keepC id (bCells (rIsAt L j k))) (0 + ((L.getD j default).syms.getD k default).toNat) [.v .pl (bool true)] = bCells (rIsAt L j (k + 1)) := by
  rw [bCells_keep]
  refine List.ext_getElem? fun n => ?_
  rw [spl_get (by rw [bCells_len]; simp only [List.length_singleton]; omega)]
  rcases Nat.lt_or_ge n 64 with hn | hn
  · rw [bCells_get hn, bCells_get hn, rIsAt_succ h]
    split
    · next q =>
      rw [List.length_singleton] at q
      have e : n = ((L.getD j default).syms.getD k default).toNat := by omega
      rw [show n - (0 + ((L.getD j default).syms.getD k default).toNat) = 0 by omega, decide_eq_true (show (L.getD j default).syms.getD k default = (n : Int) by omega), Bool.or_true]; rfl
    · next q =>
      rw [List.length_singleton] at q
      rw [decide_eq_false (show ¬ (L.getD j default).syms.getD k default = (n : Int) by omega), Bool.or_false]
  · rw [if_neg (by simp only [List.length_singleton]; omega), List.getElem?_eq_none (by rw [bCells_len]; exact hn), List.getElem?_eq_none (by rw [bCells_len]; exact hn)]
theorem rSyms_t (h : rIs L v = true) : rSyms L (v + 1) = rSyms L v ++ [(v : Int)] := by
  unfold rSyms; rw [List.range_succ, List.filter_append, List.filter_cons_of_pos h, List.map_append]; rfl
theorem rSyms_f (h : rIs L v = false) : rSyms L (v + 1) = rSyms L v := by
  unfold rSyms; rw [List.range_succ, List.filter_append, List.filter_cons_of_neg (by rw [h]; decide), List.filter_nil, List.append_nil]
theorem rAlt2_t (h : 0 < (rSyms L 64).length) : rAlt2 L = rput (rOut L) (.mk 2 (rSyms L 64) []) := if_pos h
theorem rAlt2_f (h : ¬ 0 < (rSyms L 64).length) : rAlt2 L = rOut L := if_neg h
theorem rAlt3_t (h : rEmp L = true) (h2 : rOth L = false) : rAlt3 L = rput (rAlt2 L) emptyRx := if_pos ⟨h, h2⟩
theorem rAlt3_e (h : rEmp L = false) : rAlt3 L = rAlt2 L := if_neg fun q => by rw [h] at q; cases q.1
theorem rAlt3_o (h : rOth L = true) : rAlt3 L = rAlt2 L := if_neg fun q => by rw [h] at q; cases q.2
end
end Go.Wb

namespace Go.Wb
set_option linter.unusedVariables false
set_option linter.unusedSimpArgs false
open Go.Am
def rStarB (x : Rx) : Rx := if x.kind = 4 then rAlt (x.kids.filter fun y => !decide (y.kind = 1)) else x
theorem rStarB_4 {x : Rx} (h : x.kind = 4) : rStarB x = rAlt (x.kids.filter fun y => !decide (y.kind = 1)) := if_pos h
theorem rStarB_x {x : Rx} (h : ¬ x.kind = 4) : rStarB x = x := if_neg h
theorem rStar_e {x : Rx} (h : x.kind = 0 ∨ x.kind = 1) : rStar x = emptyRx := if_pos h
theorem rStar_5 {x : Rx} (h : ¬ (x.kind = 0 ∨ x.kind = 1)) (h5 : x.kind = 5) : rStar x = x := by unfold rStar; rw [if_neg h, if_pos h5]
theorem rStar_x {x : Rx} (h : ¬ (x.kind = 0 ∨ x.kind = 1)) (h5 : ¬ x.kind = 5) : rStar x = .mk 5 [] [rStarB x] := by unfold rStar; rw [if_neg h, if_neg h5]; rfl
theorem filt_t {p : Rx → Bool} {l : List Rx} {i : Nat} (h : i < l.length) (hp : p (l.getD i default) = true) : (l.take (i + 1)).filter p = (l.take i).filter p ++ [l.getD i default] := by
  rw [take_succ' h, List.filter_append, List.filter_cons_of_pos hp]; rfl
theorem filt_f {p : Rx → Bool} {l : List Rx} {i : Nat} (h : i < l.length) (hp : p (l.getD i default) = false) : (l.take (i + 1)).filter p = (l.take i).filter p := by
  rw [take_succ' h, List.filter_append, List.filter_cons_of_neg (by rw [hp]; decide), List.filter_nil, List.append_nil]
abbrev no1 (y : Rx) : Bool := !decide (y.kind = 1)
theorem no1_t {y : Rx} (h : ¬ y.kind = 1) : no1 y = true := by simp [h]
theorem no1_f {y : Rx} (h : y.kind = 1) : no1 y = false := by simp [h]
theorem sizes_filter (p : Rx → Bool) (l : List Rx) : Rx.sizes (l.filter p) ≤ Rx.sizes l := sizes_sublist List.filter_sublist
theorem Nf.kids {x y : Rx} (h : Nf x) (hy : y ∈ x.kids) : Nf y := by
  cases h with
  | none => cases hy
  | empty => cases hy
  | set h => cases hy
  | seq h1 h2 h3 => exact h2 y hy
  | alt h1 h2 h3 h4 h5 h6 => exact h2 y hy
  | star h1 h2 h3 => rw [List.mem_singleton.1 hy]; exact h1
def nrL (t : Bool) (r : Rx) : List Rx := if t = true ∧ r.kind = 3 then (r.kids.map (buildR t)).reverse else r.kids.map (buildR t)
theorem nrL_len (t : Bool) (r : Rx) : (nrL t r).length = r.kids.length := by unfold nrL; split <;> simp
theorem nrL_t {t : Bool} {r : Rx} {i k : Nat} (ht : t = true) (h3 : r.kind = 3) (hi : i < r.kids.length) (hk : (k : Int) = (r.kids.length : Int) - 1 - i) : (nrL t r).getD i default = buildR t (r.kids.getD k default) := by
  unfold nrL
  rw [if_pos ⟨ht, h3⟩, List.getD_eq_getElem?_getD, List.getElem?_reverse (by rw [List.length_map]; exact hi), List.length_map, List.getElem?_map, ← show k = r.kids.length - 1 - i by omega, List.getElem?_eq_getElem (show k < r.kids.length by omega), Option.map_some, Option.getD_some, getD_el (by omega)]
theorem nrL_f {t : Bool} {r : Rx} {i : Nat} (h : ¬ (t = true ∧ r.kind = 3)) (hi : i < r.kids.length) : (nrL t r).getD i default = buildR t (r.kids.getD i default) := by
  unfold nrL; rw [if_neg h, getD_map hi]
theorem nrL_sizes (t : Bool) (r : Rx) : Rx.sizes (nrL t r) ≤ 2 * Rx.sizes r.kids := by
  have := sizes_build t r.kids
  unfold nrL; split
  · rw [sizes_rev]; exact this
  · exact this
theorem nrL_nf {t : Bool} {r : Rx} (hv : validR r = true) : ∀ x ∈ nrL t r, Nf x := fun x hx => by
  have : x ∈ r.kids.map (buildR t) := by
    unfold nrL at hx; split at hx
    · exact List.mem_reverse.1 hx
    · exact hx
  obtain ⟨y, hy, rfl⟩ := List.mem_map.1 this
  exact build_nf t y (valid_kids hv y hy)
theorem nr_3 {t : Bool} {r : Rx} (h : r.kind = 3) : buildR t r = seqN (nrL t r) := by
  unfold nrL
  cases t with
  | true => rw [if_pos ⟨rfl, h⟩]; exact buildR_3t h
  | false => rw [if_neg (fun q => by cases q.1)]; exact buildR_3f h
theorem nr_4 {t : Bool} {r : Rx} (hv : validR r = true) (h : r.kind = 4) : buildR t r = rAlt (nrL t r) := by
  rw [rAlt_eq (nrL_nf hv)]; unfold nrL; rw [if_neg fun q => by omega]; exact buildR_4 h
theorem nr_5 {t : Bool} {r : Rx} (hv : validR r = true) (h : r.kind = 5) : buildR t r = rStar ((nrL t r).getD 0 default) := by
  have hl := (valid_5 hv h).2
  rw [rStar_eq (nrL_nf hv _ (kid_mem (by rw [nrL_len]; omega)))]; unfold nrL; rw [if_neg fun q => by omega]; exact buildR_5 h
theorem nr_x {t : Bool} {r : Rx} (hv : validR r = true) (h3 : ¬ r.kind = 3) (h4 : ¬ r.kind = 4) (h5 : ¬ r.kind = 5) : buildR t r = r := by
  rw [buildR_x h3 h4 h5]
  have hk := valid_kinds hv
  have : r.kids = [] := by
    by_cases h2 : r.kind = 2
    · rw [validR_2 h2, Bool.and_eq_true] at hv
      exact List.eq_nil_of_length_eq_zero (of_decide_eq_true hv.1)
    · rw [validR_01 (by omega), Bool.and_eq_true] at hv
      exact List.eq_nil_of_length_eq_zero (of_decide_eq_true hv.2)
  rw [← this, ← Rx.eta]
end Go.Wb

