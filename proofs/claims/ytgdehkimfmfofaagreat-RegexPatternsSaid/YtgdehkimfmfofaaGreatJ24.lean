/-
  Plain functions: how the reference reads a pattern, and that its reading in normal form is the program's.
-/
import Derived.Test.YtgdehkimfmfofaaGreatJ23
import Derived.Test.YtgdehkimfmfofaaGreatJ22
set_option linter.unusedVariables false
set_option linter.unusedSimpArgs false
namespace Go.Wb
set_option linter.unusedVariables false
set_option linter.unusedSimpArgs false
open Go.Am Go.Wc
mutual
def wtR : Rx → Nat
  | .mk k _ l => if k = 3 ∨ k = 4 then wtS l else if k = 5 then 1 + wtS l else if k = 2 then 2 else 1
def wtS : List Rx → Nat
  | [] => 0
  | x :: l => wtR x + wtS l
end
inductive Shp : Rx → Prop
  | leaf {k : Int} {s : List Int} : k = 0 ∨ k = 1 ∨ k = 2 → Shp (.mk k s [])
  | star {x : Rx} : Shp x → Shp (.mk 5 [] [x])
  | pair {k : Int} {x y : Rx} : k = 3 ∨ k = 4 → Shp x → Shp y → Shp (.mk k [] [x, y])
def Top (n : Nat) (t : Rx) : Prop := t.kind ≠ 0 → wtS (seqF t) ≤ (seqF t).length + n
end Go.Wb

namespace Go.Wb
set_option linter.unusedVariables false
set_option linter.unusedSimpArgs false
open Go.Am
def lbR (x : Rx) (l : List Rx) : Nat := l.findIdx fun y => !decide (cmpR y x < 0)
def rput (l : List Rx) (x : Rx) : List Rx := if lbR x l < l.length ∧ cmpR (l.getD (lbR x l) default) x = 0 then l else l.take (lbR x l) ++ [x] ++ l.drop (lbR x l)
def rOut1 (o : List Rx) (x : Rx) : List Rx := if x.kind = 1 then o else if 2 < x.kind then rput o x else o
def rOut (L : List Rx) : List Rx := L.foldl rOut1 []
def rOth1 (b : Bool) (x : Rx) : Bool := if x.kind = 1 then b else if 2 < x.kind then b || accR x else b
def rOth (L : List Rx) : Bool := L.foldl rOth1 false
def rEmp (L : List Rx) : Bool := L.any fun x => decide (x.kind = 1)
def rIs (L : List Rx) (v : Nat) : Bool := L.any fun x => x.syms.any fun z => decide (z = v)
def rSyms (L : List Rx) (n : Nat) : List Int := ((List.range n).filter (rIs L)).map fun v : Nat => (v : Int)
def rAlt2 (L : List Rx) : List Rx := if 0 < (rSyms L 64).length then rput (rOut L) (.mk 2 (rSyms L 64) []) else rOut L
def rAlt3 (L : List Rx) : List Rx := if rEmp L = true ∧ rOth L = false then rput (rAlt2 L) emptyRx else rAlt2 L
def rAlt (l : List Rx) : Rx := altE (rAlt3 (altL l))
theorem altN_one {y : Rx} (h : Nf y) (hk : y.kind ≠ 0 ∧ y.kind ≠ 4) : altN [y] = y := by
  have hm : ∀ x ∈ [y], x = y := fun x hx => List.mem_singleton.1 hx
  unfold altN
  rw [altD_self (l := [y]) (fun x hx => by rw [hm x hx]; exact h) (fun x hx => by rw [hm x hx]; exact hk) (List.pairwise_singleton _ _) (fun x hx z hz _ _ => by rw [hm x hx, hm z hz]), altC_f (fun q => absurd q.1 (by simp)), altE_1 rfl]; rfl
def rStar (x : Rx) : Rx := if x.kind = 0 ∨ x.kind = 1 then emptyRx else if x.kind = 5 then x else .mk 5 [] [if x.kind = 4 then rAlt (x.kids.filter fun y => !decide (y.kind = 1)) else x]
end Go.Wb

namespace Go.Wb
set_option linter.unusedVariables false
set_option linter.unusedSimpArgs false
open Go.Am
section
variable {L : List Rx} {j k v : Nat}
def rIsAt (L : List Rx) (j k v : Nat) : Bool := rIs (L.take j) v || ((L.getD j default).syms.take k).any fun z => decide (z = (v : Int))
def bCells (f : Nat → Bool) : List SV := (List.range 64).map fun v => .v .pl (bool (f v))
end
end Go.Wb

namespace Go.Wb
set_option linter.unusedVariables false
set_option linter.unusedSimpArgs false
open Go.Am
def rStarB (x : Rx) : Rx := if x.kind = 4 then rAlt (x.kids.filter fun y => !decide (y.kind = 1)) else x
abbrev no1 (y : Rx) : Bool := !decide (y.kind = 1)
theorem Nf.kids {x y : Rx} (h : Nf x) (hy : y ∈ x.kids) : Nf y := by
  cases h with
  | none => cases hy
  | empty => cases hy
  | set h => cases hy
  | seq h1 h2 h3 => exact h2 y hy
  | alt h1 h2 h3 h4 h5 h6 => exact h2 y hy
  | star h1 h2 h3 => rw [List.mem_singleton.1 hy]; exact h1
def nrL (t : Bool) (r : Rx) : List Rx := if t = true ∧ r.kind = 3 then (r.kids.map (buildR t)).reverse else r.kids.map (buildR t)
end Go.Wb

namespace Go.Wb
set_option linter.unusedVariables false
set_option linter.unusedSimpArgs false
open Go.Am
mutual
def rder (a : Int) : Rx → Rx
  | .mk k s l => if k = 2 then (if a ∈ s then emptyRx else noneRx) else if k = 5 then .mk 3 [] [(rders a l).getD 0 default, .mk k s l] else if k ≤ 1 then noneRx else if k = 3 then .mk 4 [] (rderq a l) else .mk 4 [] (rders a l)
def rders (a : Int) : List Rx → List Rx
  | [] => []
  | x :: l => rder a x :: rders a l
def rderq (a : Int) : List Rx → List Rx
  | [] => []
  | x :: l => .mk 3 [] (rder a x :: l) :: (if accR x = true then rderq a l else [])
end
def dvE (a : Int) (r : Rx) (i : Nat) : Rx := if r.kind = 3 then .mk 3 [] (rder a (r.kids.getD i default) :: r.kids.drop (i + 1)) else rder a (r.kids.getD i default)
def dvL (a : Int) (r : Rx) (i : Nat) : List Rx := (List.range i).map (dvE a r)
def bfR (r : Rx) (i : Nat) : Bool := if r.kind = 3 ∧ 0 < i then accR (r.kids.getD (i - 1) default) else true
theorem valid_seq {l : List Rx} (h : ∀ x ∈ l, validR x = true) {k : Int} (hk : k = 3 ∨ k = 4) : validR (.mk k [] l) = true := by
  rw [validR_34 (r := .mk k [] l) hk]
  show (true && !(List.any _ _)) = true
  rw [Bool.true_and, Bool.not_eq_true', List.any_eq_false]
  exact fun x hx => by rw [h x hx]; decide
theorem set_len {s : List Int} (h : setOk s = true) : s.length ≤ 64 := by
  obtain ⟨h0, h1, h2⟩ := setOk_iff.1 h
  have h3 : ∀ k : Nat, k < s.length → (k : Int) ≤ s.getD k default := by
    intro k
    induction k with
    | zero => intro hk; have := (h2 _ (by rw [getD_el hk]; exact List.getElem_mem hk : s.getD 0 default ∈ s)).1; exact this
    | succ k ih =>
      intro hk
      have h4 := ih (by omega)
      have h5 := pair_getD h1 (i := k) (j := k + 1) (by omega) hk
      have h6 := of_decide_eq_true h5.1
      have h7 := h5.2
      omega
  have h4 := h3 (s.length - 1) (by omega)
  have h5 := (h2 _ (by rw [getD_el (by omega)]; exact List.getElem_mem (by omega) : s.getD (s.length - 1) default ∈ s)).2
  omega
theorem valid_own {k : Int} {s : List Int} {l : List Rx} (h : validR (.mk k s l) = true) : s.length ≤ 64 := by
  by_cases h2 : k = 2
  · rw [validR_2 (r := .mk k s l) h2, Bool.and_eq_true] at h
    exact set_len h.2
  · rw [validR_eq] at h
    split at h
    · cases h
    · split at h
      · next q => exact absurd q h2
      · split at h
        · cases h
        · next q =>
          have q' : ¬ 0 < s.length := fun e => q (.inl e)
          omega
mutual
theorem nodes_size (most : Int) : ∀ r : Rx, validR r = true → nodesV most r ≤ most → (r.size : Int) ≤ 65 * nodesV most r
  | .mk k s l, hv, h => by
    rw [nodesV] at h ⊢
    have h1 := valid_own hv
    have h2 := nodes_sizes most 1 (by omega) l (fun x hx => valid_kids hv x hx) h
    rw [Rx.size]; omega
theorem nodes_sizes (most n : Int) (hn : 1 ≤ n) : ∀ l : List Rx, (∀ x ∈ l, validR x = true) → nodesG most n l ≤ most → (Rx.sizes l : Int) + 65 * n ≤ 65 * nodesG most n l
  | [], _, _ => by rw [nodesG, Rx.sizes]; omega
  | x :: l, hv, h => by
    rw [nodesG] at h ⊢
    split at h
    · next q =>
      rw [if_pos q]
      have h1 := nodesV_bd most x
      have h2 := nodes_sizes most (n + nodesV most x) (by omega) l (fun y hy => hv y (List.mem_cons_of_mem _ hy)) h
      have h3 : nodesV most x ≤ most := by omega
      have h4 := nodes_size most x (hv x List.mem_cons_self) h3
      rw [Rx.sizes]; omega
    · next q => exact absurd h q
end
end Go.Wb

namespace Go.Wb
set_option linter.unusedVariables false
open Go.Am Go.Wc
structure RS where
  k : Nat
  bad : Int
section
variable (tk : Nat → Int × Rx × Nat) (N : Nat)
def RS.hd (s : RS) : Int := (tk s.k).1
def RS.adv (s : RS) : RS := ⟨s.k + (tk s.k).2.2, s.bad⟩
def rSeqLp (post : RS → Rx × RS) : Nat → RS → List Rx × RS
  | 0, s => ([], s)
  | n + 1, s => if s.bad < 0 ∧ (s.hd tk = 97 ∨ s.hd tk = 40) then ((post s).1 :: (rSeqLp post n (post s).2).1, (rSeqLp post n (post s).2).2) else ([], s)
def rSeq (post : RS → Rx × RS) (s : RS) : Rx × RS := (.mk 3 [] (rSeqLp tk post N s).1, (rSeqLp tk post N s).2)
def rAltLp (seq : RS → Rx × RS) : Nat → RS → List Rx × RS
  | 0, s => ([], s)
  | n + 1, s => if s.bad < 0 then (if (seq s).2.hd tk = 124 then ((seq s).1 :: (rAltLp seq n ((seq s).2.adv tk)).1, (rAltLp seq n ((seq s).2.adv tk)).2) else ([(seq s).1], (seq s).2)) else ([], s)
def rAltR (seq : RS → Rx × RS) (s : RS) : Rx × RS := (.mk 4 [] (rAltLp tk seq N s).1, (rAltLp tk seq N s).2)
def rStarLp : Nat → RS → Rx → Rx × RS
  | 0, s, x => (x, s)
  | n + 1, s, x => if s.hd tk = 42 then rStarLp n (s.adv tk) (.mk 5 [] [x]) else if s.hd tk = 63 then rStarLp n (s.adv tk) (.mk 4 [] [emptyRx, x]) else (x, s)
def rClose (s : RS) : RS := if s.bad < 0 ∧ s.hd tk ≠ 41 then ⟨s.k, s.k⟩ else s
def rPost : Nat → RS → Rx × RS
  | 0, s => (noneRx, s)
  | n + 1, s =>
    if s.hd tk = 40 then
      (if 0 ≤ (rClose tk (rAltR tk N (rSeq tk N (rPost n)) (s.adv tk)).2).bad then ((rAltR tk N (rSeq tk N (rPost n)) (s.adv tk)).1, rClose tk (rAltR tk N (rSeq tk N (rPost n)) (s.adv tk)).2)
       else rStarLp tk N ((rClose tk (rAltR tk N (rSeq tk N (rPost n)) (s.adv tk)).2).adv tk) (rAltR tk N (rSeq tk N (rPost n)) (s.adv tk)).1)
    else rStarLp tk N (s.adv tk) (tk s.k).2.1
end
section
variable {tk : Nat → Int × Rx × Nat} {N : Nat}
theorem rSeqLp_stop {post : RS → Rx × RS} {k : Nat} {s : RS} (h : ¬ (s.bad < 0 ∧ (s.hd tk = 97 ∨ s.hd tk = 40))) : rSeqLp tk post k s = ([], s) := by
  cases k with
  | zero => rfl
  | succ k => rw [rSeqLp, if_neg h]
theorem rSeqLp_step {post : RS → Rx × RS} {k : Nat} {s : RS} (h : s.bad < 0 ∧ (s.hd tk = 97 ∨ s.hd tk = 40)) : rSeqLp tk post (k + 1) s = ((post s).1 :: (rSeqLp tk post k (post s).2).1, (rSeqLp tk post k (post s).2).2) := by rw [rSeqLp, if_pos h]
theorem rAltLp_stop {seq : RS → Rx × RS} {k : Nat} {s : RS} (h : ¬ s.bad < 0) : rAltLp tk seq k s = ([], s) := by
  cases k with
  | zero => rfl
  | succ k => rw [rAltLp, if_neg h]
theorem rAltLp_more {seq : RS → Rx × RS} {k : Nat} {s : RS} (h : s.bad < 0) (h1 : (seq s).2.hd tk = 124) : rAltLp tk seq (k + 1) s = ((seq s).1 :: (rAltLp tk seq k ((seq s).2.adv tk)).1, (rAltLp tk seq k ((seq s).2.adv tk)).2) := by rw [rAltLp, if_pos h, if_pos h1]
theorem rAltLp_last {seq : RS → Rx × RS} {k : Nat} {s : RS} (h : s.bad < 0) (h1 : (seq s).2.hd tk ≠ 124) : rAltLp tk seq (k + 1) s = ([(seq s).1], (seq s).2) := by rw [rAltLp, if_pos h, if_neg h1]
theorem rStarLp_stop {k : Nat} {s : RS} {x : Rx} (h : s.hd tk ≠ 42) (h2 : s.hd tk ≠ 63) : rStarLp tk k s x = (x, s) := by
  cases k with
  | zero => rfl
  | succ k => rw [rStarLp, if_neg h, if_neg h2]
theorem rStarLp_star {k : Nat} {s : RS} {x : Rx} (h : s.hd tk = 42) : rStarLp tk (k + 1) s x = rStarLp tk k (s.adv tk) (.mk 5 [] [x]) := by rw [rStarLp, if_pos h]
theorem rStarLp_opt {k : Nat} {s : RS} {x : Rx} (h : s.hd tk = 63) : rStarLp tk (k + 1) s x = rStarLp tk k (s.adv tk) (.mk 4 [] [emptyRx, x]) := by rw [rStarLp, if_neg (by omega), if_pos h]
theorem rPost_40e {n : Nat} {s : RS} (h : s.hd tk = 40) (hb : 0 ≤ (rClose tk (rAltR tk N (rSeq tk N (rPost tk N n)) (s.adv tk)).2).bad) : rPost tk N (n + 1) s = ((rAltR tk N (rSeq tk N (rPost tk N n)) (s.adv tk)).1, rClose tk (rAltR tk N (rSeq tk N (rPost tk N n)) (s.adv tk)).2) := by
  rw [rPost, if_pos h, if_pos hb]
theorem rPost_40 {n : Nat} {s : RS} (h : s.hd tk = 40) (hb : ¬ 0 ≤ (rClose tk (rAltR tk N (rSeq tk N (rPost tk N n)) (s.adv tk)).2).bad) :
    rPost tk N (n + 1) s = rStarLp tk N ((rClose tk (rAltR tk N (rSeq tk N (rPost tk N n)) (s.adv tk)).2).adv tk) (rAltR tk N (rSeq tk N (rPost tk N n)) (s.adv tk)).1 := by
  rw [rPost, if_pos h, if_neg hb]
theorem rPost_x {n : Nat} {s : RS} (h : ¬ s.hd tk = 40) : rPost tk N (n + 1) s = rStarLp tk N (s.adv tk) (tk s.k).2.1 := by rw [rPost, if_neg h]
structure TkOk (tk : Nat → Int × Rx × Nat) (L : Nat) : Prop where
  le : ∀ k, k ≤ L → k + (tk k).2.2 ≤ L
  lt : ∀ k, k ≤ L → (tk k).1 ≠ 0 → (tk k).1 ≠ 101 → 0 < (tk k).2.2
  at_ : ∀ k, (tk k).2.1.size ≤ 65
  nf : ∀ k, Nf (tk k).2.1
  bd : ∀ k, 0 ≤ (tk k).1 ∧ (tk k).1 ≤ 255
theorem TkOk.adv {L : Nat} (h : TkOk tk L) {s : RS} (hs : s.k ≤ L) (hk : s.hd tk ≠ 0 ∧ s.hd tk ≠ 101) : s.k < (s.adv tk).k ∧ (s.adv tk).k ≤ L := by
  have h1 := h.le s.k hs
  have h2 := h.lt s.k hs hk.1 hk.2
  show s.k < s.k + _ ∧ s.k + _ ≤ L
  omega
def RPostOk (tk : Nat → Int × Rx × Nat) (L n : Nat) (post : RS → Rx × RS) : Prop := ∀ s : RS, s.k ≤ L → L ≤ s.k + n → s.bad < 0 → (s.hd tk = 97 ∨ s.hd tk = 40) →
  s.k < (post s).2.k ∧ (post s).2.k ≤ L ∧ (post s).1.size + 70 * s.k ≤ 70 * (post s).2.k
def RSeqOk (c L n : Nat) (seq : RS → Rx × RS) : Prop := ∀ s : RS, s.k ≤ L → L ≤ s.k + n → s.bad < 0 →
  s.k ≤ (seq s).2.k ∧ (seq s).2.k ≤ L ∧ (seq s).1.size + 70 * s.k ≤ 70 * (seq s).2.k + c
theorem rSeqLp_ok {L n : Nat} {post : RS → Rx × RS} (h : RPostOk tk L n post) : ∀ (m : Nat) (s : RS), s.k ≤ L → L ≤ s.k + n →
    s.k ≤ (rSeqLp tk post m s).2.k ∧ (rSeqLp tk post m s).2.k ≤ L ∧ Rx.sizes (rSeqLp tk post m s).1 + 70 * s.k ≤ 70 * (rSeqLp tk post m s).2.k
  | 0, s, h1, h2 => ⟨Nat.le_refl _, h1, by show 0 + 70 * s.k ≤ 70 * s.k; omega⟩
  | m + 1, s, h1, h2 => by
    rw [rSeqLp]
    split
    · next hc =>
      obtain ⟨g1, g2, g3⟩ := h s h1 h2 hc.1 hc.2
      obtain ⟨i1, i2, i3⟩ := rSeqLp_ok h m (post s).2 g2 (by omega)
      refine ⟨by show s.k ≤ (rSeqLp tk post m (post s).2).2.k; omega, i2, ?_⟩
      show Rx.sizes (_ :: _) + _ ≤ 70 * (rSeqLp tk post m (post s).2).2.k
      rw [Rx.sizes]; omega
    · exact ⟨Nat.le_refl _, h1, by show 0 + 70 * s.k ≤ 70 * s.k; omega⟩
theorem rSeq_ok {L n : Nat} {post : RS → Rx × RS} (h : RPostOk tk L n post) : RSeqOk 1 L n (rSeq tk N post) := fun s h1 h2 h3 => by
  obtain ⟨i1, i2, i3⟩ := rSeqLp_ok h N s h1 h2
  refine ⟨i1, i2, ?_⟩
  show (Rx.mk 3 [] _).size + _ ≤ 70 * (rSeqLp tk post N s).2.k + 1
  rw [size_mk]; simp only [List.length_nil]; omega
theorem rAltLp_ok {L n : Nat} {seq : RS → Rx × RS} (ht : TkOk tk L) (h : RSeqOk 1 L n seq) : ∀ (m : Nat) (s : RS), s.k ≤ L → L ≤ s.k + n →
    s.k ≤ (rAltLp tk seq m s).2.k ∧ (rAltLp tk seq m s).2.k ≤ L ∧ Rx.sizes (rAltLp tk seq m s).1 + 70 * s.k ≤ 70 * (rAltLp tk seq m s).2.k + 1
  | 0, s, h1, h2 => ⟨Nat.le_refl _, h1, by show 0 + 70 * s.k ≤ 70 * s.k + 1; omega⟩
  | m + 1, s, h1, h2 => by
    rw [rAltLp]
    split
    · next hb =>
      obtain ⟨g1, g2, g3⟩ := h s h1 h2 hb
      split
      · next hc =>
        obtain ⟨a1, a2⟩ := ht.adv g2 (by omega)
        obtain ⟨i1, i2, i3⟩ := rAltLp_ok ht h m ((seq s).2.adv tk) a2 (by omega)
        refine ⟨by show s.k ≤ (rAltLp tk seq m ((seq s).2.adv tk)).2.k; omega, i2, ?_⟩
        show Rx.sizes (_ :: _) + _ ≤ 70 * (rAltLp tk seq m ((seq s).2.adv tk)).2.k + 1
        rw [Rx.sizes]; omega
      · refine ⟨g1, g2, ?_⟩
        show Rx.sizes [_] + _ ≤ _
        rw [Rx.sizes, Rx.sizes]; omega
    · exact ⟨Nat.le_refl _, h1, by show 0 + 70 * s.k ≤ 70 * s.k + 1; omega⟩
theorem rAlt_ok {L n : Nat} {seq : RS → Rx × RS} (ht : TkOk tk L) (h : RSeqOk 1 L n seq) : RSeqOk 2 L n (rAltR tk N seq) := fun s h1 h2 h3 => by
  obtain ⟨i1, i2, i3⟩ := rAltLp_ok ht h N s h1 h2
  refine ⟨i1, i2, ?_⟩
  show (Rx.mk 4 [] _).size + _ ≤ 70 * (rAltLp tk seq N s).2.k + 2
  rw [size_mk]; simp only [List.length_nil]; omega
theorem rStarLp_ok {L : Nat} (ht : TkOk tk L) : ∀ (m : Nat) (s : RS) (x : Rx), s.k ≤ L →
    s.k ≤ (rStarLp tk m s x).2.k ∧ (rStarLp tk m s x).2.k ≤ L ∧ (rStarLp tk m s x).1.size + 70 * s.k ≤ 70 * (rStarLp tk m s x).2.k + x.size
  | 0, s, x, h1 => ⟨Nat.le_refl _, h1, by rw [rStarLp]; show x.size + 70 * s.k ≤ 70 * s.k + x.size; omega⟩
  | m + 1, s, x, h1 => by
    rw [rStarLp]
    split
    · next hc =>
      obtain ⟨a1, a2⟩ := ht.adv h1 (by omega)
      obtain ⟨i1, i2, i3⟩ := rStarLp_ok ht m (s.adv tk) (.mk 5 [] [x]) a2
      rw [size_mk] at i3; simp only [List.length_nil, Rx.sizes] at i3
      exact ⟨by omega, i2, by omega⟩
    · split
      · next hc =>
        obtain ⟨a1, a2⟩ := ht.adv h1 (by omega)
        obtain ⟨i1, i2, i3⟩ := rStarLp_ok ht m (s.adv tk) (.mk 4 [] [emptyRx, x]) a2
        rw [size_mk] at i3; simp only [List.length_nil, Rx.sizes, size_mk] at i3
        exact ⟨by omega, i2, by omega⟩
      · exact ⟨Nat.le_refl _, h1, by show x.size + 70 * s.k ≤ 70 * s.k + x.size; omega⟩
theorem rClose_k (s : RS) : (rClose tk s).k = s.k := by unfold rClose; split <;> rfl
theorem rClose_bad {s : RS} (h : ¬ 0 ≤ (rClose tk s).bad) : rClose tk s = s ∧ s.bad < 0 ∧ s.hd tk = 41 := by
  unfold rClose at *
  split at h
  · exact absurd (Int.natCast_nonneg s.k) h
  · next hc =>
    rw [if_neg hc]
    refine ⟨rfl, by omega, ?_⟩
    by_cases q : s.hd tk = 41
    · exact q
    · exact absurd ⟨by omega, q⟩ hc
theorem rPost_ok {L : Nat} (ht : TkOk tk L) : ∀ n : Nat, RPostOk tk L n (rPost tk N n)
  | 0 => fun s h1 h2 hb hk => by
    have := ht.adv h1 (by omega)
    omega
  | n + 1 => fun s h1 h2 hb hk => by
    obtain ⟨a1, a2⟩ := ht.adv h1 (by omega)
    rw [rPost]
    split
    · obtain ⟨g1, g2, g3⟩ := rAlt_ok (N := N) ht (rSeq_ok (N := N) (rPost_ok ht n)) (s.adv tk) a2 (by omega) hb
      generalize hr : rAltR tk N (rSeq tk N (rPost tk N n)) (s.adv tk) = r at *
      have e1 := rClose_k (tk := tk) r.2
      split
      · exact ⟨by show s.k < (rClose tk r.2).k; rw [e1]; omega, by show (rClose tk r.2).k ≤ L; rw [e1]; exact g2, by show r.1.size + _ ≤ 70 * (rClose tk r.2).k; rw [e1]; omega⟩
      · next hc =>
        obtain ⟨e2, e3, e4⟩ := rClose_bad hc
        rw [e2]
        obtain ⟨b1, b2⟩ := ht.adv g2 (by omega)
        obtain ⟨i1, i2, i3⟩ := rStarLp_ok ht N (r.2.adv tk) r.1 b2
        exact ⟨by omega, i2, by omega⟩
    · obtain ⟨i1, i2, i3⟩ := rStarLp_ok ht N (s.adv tk) (tk s.k).2.1 a2
      have := ht.at_ s.k
      exact ⟨by omega, i2, by omega⟩
def Raw (x y : Rx) : Prop := validR x = true ∧ buildR false x = y
theorem Raw.own {x : Rx} (h : Nf x) : Raw x x := ⟨nf_valid h, build_id h⟩
inductive Raws : List Rx → List Rx → Prop
  | nil : Raws [] []
  | cons {x y : Rx} {l m : List Rx} : Raw x y → Raws l m → Raws (x :: l) (y :: m)
theorem Raws.all {l m : List Rx} (h : Raws l m) : (∀ x ∈ l, validR x = true) ∧ l.map (buildR false) = m := by
  induction h with
  | nil => exact ⟨fun x hx => (by cases hx), rfl⟩
  | cons h1 h2 ih =>
    refine ⟨fun x hx => ?_, by rw [List.map_cons, h1.2, ih.2]⟩
    rcases List.mem_cons.1 hx with rfl | hx
    · exact h1.1
    · exact ih.1 x hx
theorem Raws.seq {l m : List Rx} (h : Raws l m) : Raw (.mk 3 [] l) (seqN m) := ⟨valid_seq h.all.1 (.inl rfl), by rw [buildR_3f rfl]; show seqN (l.map (buildR false)) = _; rw [h.all.2]⟩
theorem Raws.alt {l m : List Rx} (h : Raws l m) : Raw (.mk 4 [] l) (altN m) := ⟨valid_seq h.all.1 (.inr rfl), by rw [buildR_4 rfl]; show altN (l.map (buildR false)) = _; rw [h.all.2]⟩
theorem Raw.star {x y : Rx} (h : Raw x y) : Raw (.mk 5 [] [x]) (starN y) := ⟨by
  rw [validR_5 rfl]
  show (true && (true && validR x)) = true
  rw [h.1]; rfl, by rw [buildR_5 rfl]; show starN (buildR false x) = _; rw [h.2]⟩
theorem Raw.opt {x y : Rx} (h : Raw x y) : Raw (.mk 4 [] [emptyRx, x]) (altN [emptyRx, y]) := (Raws.cons (Raw.own .empty) (.cons h .nil)).alt
structure Cr (tk : Nat → Int × Rx × Nat) (L : Nat) (T : Nat → Nat → List Tok) (s : RS) (t : PS) : Prop where
  bad : s.bad = t.bad
  le : s.k ≤ L
  l : ∃ n, L ≤ s.k + n ∧ t.l = T n s.k
structure Tks (tk : Nat → Int × Rx × Nat) (L : Nat) (T : Nat → Nat → List Tok) : Prop where
  ok : TkOk tk L
  hd : ∀ n k, L ≤ k + n → k ≤ L → ((T n k).getD 0 default).kind = (tk k).1 ∧ ((T n k).getD 0 default).pos = k
  atm : ∀ n k, L ≤ k + n → k ≤ L → (tk k).1 ≠ 0 → (tk k).1 ≠ 101 → ((T n k).getD 0 default).atom = (tk k).2.1 ∧ ∃ m, L ≤ k + (tk k).2.2 + m ∧ (T n k).drop 1 = T m (k + (tk k).2.2)
  en : ∀ n k, endT (T n k) ∧ TokOk (T n k)
section
variable {L : Nat} {T : Nat → Nat → List Tok} (hT : Tks tk L T)
include hT
theorem Cr.hd {s : RS} {t : PS} (h : Cr tk L T s t) : t.hd = s.hd tk := by
  obtain ⟨n, h1, h2⟩ := h.l
  show (t.l.getD 0 default).kind = _
  rw [h2]; exact (hT.hd n s.k h1 h.le).1
theorem Cr.pos {s : RS} {t : PS} (h : Cr tk L T s t) : (t.l.getD 0 default).pos = s.k := by
  obtain ⟨n, h1, h2⟩ := h.l
  rw [h2]; exact (hT.hd n s.k h1 h.le).2
theorem Cr.atom {s : RS} {t : PS} (h : Cr tk L T s t) (hk : s.hd tk ≠ 0 ∧ s.hd tk ≠ 101) : (t.l.getD 0 default).atom = (tk s.k).2.1 := by
  obtain ⟨n, h1, h2⟩ := h.l
  rw [h2]; exact (hT.atm n s.k h1 h.le hk.1 hk.2).1
theorem Cr.adv {s : RS} {t : PS} (h : Cr tk L T s t) (hk : s.hd tk ≠ 0 ∧ s.hd tk ≠ 101) : Cr tk L T (s.adv tk) t.adv := by
  obtain ⟨n, h1, h2⟩ := h.l
  obtain ⟨m, h3, h4⟩ := (hT.atm n s.k h1 h.le hk.1 hk.2).2
  exact ⟨h.bad, (hT.ok.adv h.le hk).2, m, h3, by show t.l.drop 1 = _; rw [h2]; exact h4⟩
theorem Cr.en {s : RS} {t : PS} (h : Cr tk L T s t) : endT t.l ∧ TokOk t.l := by
  obtain ⟨n, h1, h2⟩ := h.l
  rw [h2]; exact hT.en n s.k
omit hT in
def Both {α β : Type} (tk : Nat → Int × Rx × Nat) (L : Nat) (T : Nat → Nat → List Tok) (R : α → β → Prop) (a : α × RS) (b : β × PS) : Prop := a.2.bad = b.2.bad ∧ (a.2.bad < 0 → Cr tk L T a.2 b.2 ∧ R a.1 b.1)
omit hT in
theorem both_mk {α β : Type} {R : α → β → Prop} {x : α} {s : RS} {y : β} {t : PS} (h1 : s.bad = t.bad) (h2 : s.bad < 0 → Cr tk L T s t ∧ R x y) : Both tk L T R (x, s) (y, t) := ⟨h1, h2⟩
omit hT in
def PostB (tk : Nat → Int × Rx × Nat) (L n m : Nat) (T : Nat → Nat → List Tok) (rp : RS → Rx × RS) (pp : PS → Rx × PS) : Prop :=
  ∀ s t, Cr tk L T s t → s.bad < 0 → L ≤ s.k + n → t.l.length ≤ m → (s.hd tk = 97 ∨ s.hd tk = 40) → Both tk L T Raw (rp s) (pp t)
omit hT in
def SeqB (tk : Nat → Int × Rx × Nat) (L n m : Nat) (T : Nat → Nat → List Tok) (rp : RS → Rx × RS) (pp : PS → Rx × PS) : Prop :=
  ∀ s t, Cr tk L T s t → s.bad < 0 → L ≤ s.k + n → t.l.length ≤ m → Both tk L T Raw (rp s) (pp t)
theorem seqLp_both {n m : Nat} {rp : RS → Rx × RS} {pp : PS → Rx × PS} (h : PostB tk L n m T rp pp) (ho : RPostOk tk L n rp) (hp : PostOk pp m) : ∀ (i j : Nat) (s : RS) (t : PS), Cr tk L T s t → s.bad < 0 → L ≤ s.k + n → L ≤ s.k + i → t.l.length ≤ m → t.l.length ≤ j →
    Both tk L T Raws (rSeqLp tk rp i s) (seqLp pp j t)
  | i, 0, s, t, hc, hb, _, _, _, hj => by
    have := (hc.en hT).1.1
    omega
  | 0, j + 1, s, t, hc, hb, hn, hi, hm, hj => by
    have h1 : ¬ (s.hd tk = 97 ∨ s.hd tk = 40) := fun q => by
      have := hT.ok.adv hc.le (by omega)
      omega
    rw [rSeqLp, seqLp_stop (fun q => h1 (by rw [← hc.hd hT]; exact q.2))]
    exact ⟨hc.bad, fun _ => ⟨hc, .nil⟩⟩
  | i + 1, j + 1, s, t, hc, hb, hn, hi, hm, hj => by
    by_cases hk : s.hd tk = 97 ∨ s.hd tk = 40
    · have hk' : t.hd = 97 ∨ t.hd = 40 := by rw [hc.hd hT]; exact hk
      obtain ⟨en1, en2⟩ := hc.en hT
      obtain ⟨g1, g2, g3, g4, g5⟩ := hp t hm en1 hk' en2
      obtain ⟨o1, o2, o3⟩ := ho s hc.le hn hb hk
      obtain ⟨b1, b2⟩ := h s t hc hb hn hm hk
      rw [rSeqLp_step ⟨hb, hk⟩, seqLp_step ⟨by rw [← hc.bad]; exact hb, hk'⟩]
      by_cases hb2 : (rp s).2.bad < 0
      · obtain ⟨b3, b4⟩ := b2 hb2
        obtain ⟨i1, i2⟩ := seqLp_both h ho hp i j (rp s).2 (pp t).2 b3 hb2 (by omega) (by omega) (by omega) (by omega)
        exact ⟨i1, fun q => ⟨(i2 q).1, .cons b4 (i2 q).2⟩⟩
      · rw [rSeqLp_stop (fun q => hb2 q.1), seqLp_stop (fun q => hb2 (by rw [b1]; exact q.1))]
        exact ⟨b1, fun q => absurd q hb2⟩
    · rw [rSeqLp_stop (fun q => hk q.2), seqLp_stop (fun q => hk (by rw [← hc.hd hT]; exact q.2))]
      exact ⟨hc.bad, fun _ => ⟨hc, .nil⟩⟩
theorem seq_both {n m : Nat} {rp : RS → Rx × RS} {pp : PS → Rx × PS} (h : PostB tk L n m T rp pp) (ho : RPostOk tk L n rp) (hp : PostOk pp m) (hN : L ≤ N) : SeqB tk L n m T (rSeq tk N rp) (pSeq pp) := fun s t hc hb hn hm => by
  obtain ⟨i1, i2⟩ := seqLp_both hT h ho hp N t.l.length s t hc hb hn (by omega) hm (Nat.le_refl _)
  exact ⟨i1, fun q => ⟨(i2 q).1, (i2 q).2.seq⟩⟩
theorem altLp_both {n m : Nat} {rp : RS → Rx × RS} {pp : PS → Rx × PS} (h : SeqB tk L n m T rp pp) (ho : RSeqOk 1 L n rp) (hp : SeqOk 1 pp m) : ∀ (i j : Nat) (s : RS) (t : PS), Cr tk L T s t → s.bad < 0 → L ≤ s.k + n → L ≤ s.k + i → t.l.length ≤ m → (pp t).2.l.length ≤ j →
    Both tk L T Raws (rAltLp tk rp (i + 1) s) ((pp t).1 :: (altLp pp j (pp t).2).1, (altLp pp j (pp t).2).2) := fun i => by
  induction i with
  | zero =>
    intro j s t hc hb hn hi hm hj
    obtain ⟨en1, en2⟩ := hc.en hT
    obtain ⟨o1, o2, o3⟩ := ho s hc.le hn hb
    obtain ⟨b1, b2⟩ := h s t hc hb hn hm
    have hk : (rp s).2.hd tk ≠ 124 := fun q => by
      have := hT.ok.adv o2 (by omega)
      omega
    rw [rAltLp_last hb hk]
    by_cases hb2 : (rp s).2.bad < 0
    · obtain ⟨b3, b4⟩ := b2 hb2
      rw [altLp_stop (fun q => hk (by rw [← b3.hd hT]; exact q.2))]
      exact ⟨b1, fun q => ⟨b3, .cons b4 .nil⟩⟩
    · rw [altLp_stop (fun q => hb2 (by rw [b1]; exact q.1))]
      exact ⟨b1, fun q => absurd q hb2⟩
  | succ i ih =>
    intro j s t hc hb hn hi hm hj
    obtain ⟨en1, en2⟩ := hc.en hT
    obtain ⟨o1, o2, o3⟩ := ho s hc.le hn hb
    obtain ⟨b1, b2⟩ := h s t hc hb hn hm
    obtain ⟨g1, g2, g3, g4, g5⟩ := hp t hm en1 en2
    by_cases hb2 : (rp s).2.bad < 0
    · obtain ⟨b3, b4⟩ := b2 hb2
      by_cases hk : (rp s).2.hd tk = 124
      · rw [rAltLp_more hb hk]
        obtain ⟨a1, a2⟩ := hT.ok.adv o2 (by omega)
        have hc2 := b3.adv hT (by omega)
        have hk' : (pp t).2.hd = 124 := by rw [b3.hd hT]; exact hk
        obtain ⟨f1, f2⟩ := endT_adv g1 (by omega)
        obtain ⟨j, rfl⟩ : ∃ j', j = j' + 1 := ⟨j - 1, by have := g1.1; omega⟩
        rw [altLp_step ⟨by rw [← b1]; exact hb2, hk'⟩]
        obtain ⟨en3, en4⟩ := hc2.en hT
        obtain ⟨k1, k2, k3, k4, k5⟩ := hp (pp t).2.adv (by omega) en3 en4
        obtain ⟨i1, i2⟩ := ih j ((rp s).2.adv tk) (pp t).2.adv hc2 hb2 (by omega) (by omega) (by omega) (by omega)
        exact ⟨i1, fun q => ⟨(i2 q).1, .cons b4 (i2 q).2⟩⟩
      · rw [rAltLp_last hb hk, altLp_stop (fun q => hk (by rw [← b3.hd hT]; exact q.2))]
        exact ⟨b1, fun q => ⟨b3, .cons b4 .nil⟩⟩
    · rw [altLp_stop (fun q => hb2 (by rw [b1]; exact q.1))]
      by_cases hk : (rp s).2.hd tk = 124
      · rw [rAltLp_more hb hk, rAltLp_stop (s := (rp s).2.adv tk) hb2]
        exact ⟨b1, fun q => absurd q hb2⟩
      · rw [rAltLp_last hb hk]
        exact ⟨b1, fun q => absurd q hb2⟩
theorem alt_both {n m : Nat} {rp : RS → Rx × RS} {pp : PS → Rx × PS} (h : SeqB tk L n m T rp pp) (ho : RSeqOk 1 L n rp) (hp : SeqOk 1 pp m) (hN : L + 1 ≤ N) : SeqB tk L n m T (rAltR tk N rp) (pAlt pp) := fun s t hc hb hn hm => by
  obtain ⟨i, rfl⟩ : ∃ i, N = i + 1 := ⟨N - 1, by omega⟩
  have h9 := altLp_both hT h ho hp i (pp t).2.l.length s t hc hb hn (by omega) hm (Nat.le_refl _)
  have e1 : rAltR tk (i + 1) rp s = (.mk 4 [] (rAltLp tk rp (i + 1) s).1, (rAltLp tk rp (i + 1) s).2) := by unfold rAltR; rfl
  have e2 : pAlt pp t = (altN ((pp t).1 :: (altLp pp (pp t).2.l.length (pp t).2).1), (altLp pp (pp t).2.l.length (pp t).2).2) := by unfold pAlt; rfl
  rw [e1, e2]
  generalize rAltLp tk rp (i + 1) s = A at *
  generalize (altLp pp (pp t).2.l.length (pp t).2) = B at *
  generalize (pp t).1 = C at *
  have h8 : A.2.bad = B.2.bad ∧ (A.2.bad < 0 → Cr tk L T A.2 B.2 ∧ Raws A.1 (C :: B.1)) := h9
  exact both_mk h8.1 fun q => ⟨(h8.2 q).1, Raws.alt (h8.2 q).2⟩
theorem starLp_both : ∀ (i j : Nat) (s : RS) (t : PS) (x y : Rx), Cr tk L T s t → L ≤ s.k + i → t.l.length ≤ j → Raw x y → Both tk L T Raw (rStarLp tk i s x) (starLp j t y)
  | i, 0, s, t, x, y, hc, _, hj, _ => by
    have := (hc.en hT).1.1
    omega
  | 0, j + 1, s, t, x, y, hc, hi, hj, hr => by
    have h1 : s.hd tk ≠ 42 ∧ s.hd tk ≠ 63 := by
      refine ⟨fun q => ?_, fun q => ?_⟩
      · have := hT.ok.adv hc.le (by omega)
        omega
      · have := hT.ok.adv hc.le (by omega)
        omega
    rw [rStarLp, starLp_stop (by rw [hc.hd hT]; exact h1.1) (by rw [hc.hd hT]; exact h1.2)]
    exact ⟨hc.bad, fun _ => ⟨hc, hr⟩⟩
  | i + 1, j + 1, s, t, x, y, hc, hi, hj, hr => by
    have eh := hc.hd hT
    obtain ⟨en1, en2⟩ := hc.en hT
    by_cases h1 : s.hd tk = 42
    · obtain ⟨a1, a2⟩ := hT.ok.adv hc.le (by omega)
      obtain ⟨f1, f2⟩ := endT_adv en1 (by omega)
      rw [rStarLp_star h1, starLp_star (by omega)]
      exact starLp_both i j _ _ _ _ (hc.adv hT (by omega)) (by omega) (by omega) hr.star
    · by_cases h2 : s.hd tk = 63
      · obtain ⟨a1, a2⟩ := hT.ok.adv hc.le (by omega)
        obtain ⟨f1, f2⟩ := endT_adv en1 (by omega)
        rw [rStarLp_opt h2, starLp_opt (by omega)]
        exact starLp_both i j _ _ _ _ (hc.adv hT (by omega)) (by omega) (by omega) hr.opt
      · rw [rStarLp_stop h1 h2, starLp_stop (by omega) (by omega)]
        exact ⟨hc.bad, fun _ => ⟨hc, hr⟩⟩
theorem close_both {a : Rx × RS} {b : Rx × PS} (h : Both tk L T Raw a b) : (rClose tk a.2).bad = (closeP b.2).bad ∧ ((rClose tk a.2).bad < 0 → Cr tk L T (rClose tk a.2) (closeP b.2) ∧ Raw a.1 b.1) := by
  obtain ⟨h1, h2⟩ := h
  by_cases hb : a.2.bad < 0
  · obtain ⟨h3, h4⟩ := h2 hb
    have eh := h3.hd hT
    by_cases hk : a.2.hd tk = 41
    · rw [show rClose tk a.2 = a.2 from if_neg fun q => q.2 hk, show closeP b.2 = b.2 from if_neg fun q => q.2 (by omega)]
      exact ⟨h1, h2⟩
    · rw [show rClose tk a.2 = ⟨a.2.k, a.2.k⟩ from if_pos ⟨hb, hk⟩, show closeP b.2 = b.2.fail from if_pos ⟨by omega, by omega⟩]
      unfold PS.fail
      rw [if_pos (by omega), h3.pos hT]
      exact ⟨rfl, fun q => by have q' : (a.2.k : Int) < 0 := q; omega⟩
  · rw [show rClose tk a.2 = a.2 from if_neg fun q => hb q.1, show closeP b.2 = b.2 from if_neg fun q => hb (by omega)]
    exact ⟨h1, h2⟩
theorem post_both (hN : L + 1 ≤ N) : ∀ n m : Nat, PostB tk L n m T (rPost tk N n) (pPost m)
  | 0, m => fun s t hc hb hn hm hk => by
    have := hT.ok.adv hc.le (by omega)
    omega
  | n + 1, 0 => fun s t hc hb hn hm hk => by
    have := (hc.en hT).1.1
    omega
  | n + 1, m + 1 => fun s t hc hb hn hm hk => by
    have eh := hc.hd hT
    obtain ⟨en1, en2⟩ := hc.en hT
    obtain ⟨a1, a2⟩ := hT.ok.adv hc.le (by omega)
    obtain ⟨f1, f2⟩ := endT_adv en1 (by omega)
    have hc2 := hc.adv hT (by omega)
    by_cases h40 : s.hd tk = 40
    · have hA := close_both hT (alt_both (N := N) hT (seq_both (N := N) hT (post_both hN n m) (rPost_ok hT.ok n) (pPost_ok m) (by omega)) (rSeq_ok (rPost_ok hT.ok n)) (pSeq_ok (pPost_ok m)) hN (s.adv tk) t.adv hc2 hb (by omega) (by omega))
      obtain ⟨h1, h2⟩ := hA
      by_cases hb2 : (rClose tk (rAltR tk N (rSeq tk N (rPost tk N n)) (s.adv tk)).2).bad < 0
      · obtain ⟨h3, h4⟩ := h2 hb2
        rw [rPost_40 h40 (by omega), pPost_40 (by omega) (by rw [← h1]; omega)]
        have hq := (rClose_bad (tk := tk) (s := (rAltR tk N (rSeq tk N (rPost tk N n)) (s.adv tk)).2) (by omega))
        have h41 : (rClose tk (rAltR tk N (rSeq tk N (rPost tk N n)) (s.adv tk)).2).hd tk = 41 := by rw [hq.1]; exact hq.2.2
        exact starLp_both hT N _ _ _ _ _ (h3.adv hT (by show RS.hd tk (rClose tk _) ≠ 0 ∧ RS.hd tk (rClose tk _) ≠ 101; omega)) (by omega) (Nat.le_refl _) h4
      · rw [rPost_40e h40 (by omega), pPost_40e (by omega) (by rw [← h1]; omega)]
        exact both_mk h1 fun q => absurd q hb2
    · rw [rPost_x h40, pPost_x (by omega), hc.atom hT (by omega)]
      exact starLp_both hT N _ _ _ _ _ hc2 (by omega) (Nat.le_refl _) (Raw.own (hT.ok.nf _))
end
end
end Go.Wb

