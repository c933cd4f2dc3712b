/-
  Plain functions: an expression built anew, kid by kid.
-/
import Derived.Test.YtjimlkpfmbachaaGreatJ22
set_option linter.unusedVariables false
set_option linter.unusedSectionVars false
set_option linter.unusedSimpArgs false
namespace Go.Wb
open Go.Am
def cptN {α : Type} [Inhabited α] (eq : α → α → Bool) (l : List α) : Nat → List α
  | 0 => []
  | i + 1 => if 0 < i ∧ eq (l.getD i default) (l.getD (i - 1) default) = true then cptN eq l i else cptN eq l i ++ [l.getD i default]
def cpt {α : Type} [Inhabited α] (eq : α → α → Bool) (l : List α) : List α := cptN eq l l.length
section
variable {α : Type} [Inhabited α] {eq : α → α → Bool} {l : List α}
theorem cptN_len (i : Nat) : (cptN eq l i).length ≤ i := by
  induction i with
  | zero => exact Nat.le_refl _
  | succ i ih =>
    rw [cptN]
    split
    · omega
    · rw [List.length_append, List.length_singleton]; omega
theorem cptN_dup {i : Nat} (h0 : 0 < i) (h : eq (l.getD i default) (l.getD (i - 1) default) = true) : cptN eq l (i + 1) = cptN eq l i := by rw [cptN, if_pos ⟨h0, h⟩]
theorem cptN_new {i : Nat} (h : eq (l.getD i default) (l.getD (i - 1) default) = false) : cptN eq l (i + 1) = cptN eq l i ++ [l.getD i default] := by
  rw [cptN, if_neg (fun q => by rw [h] at q; exact absurd q.2 (by decide))]
theorem cptN_one : cptN eq l 1 = [l.getD 0 default] := by rw [cptN, if_neg (by omega)]; rfl
theorem cpt_short (h : l.length < 2) : cpt eq l = l := by
  match l, h with
  | [], _ => rfl
  | [x], _ => exact cptN_one
theorem cptN_take {i : Nat} (hi : i < l.length) (h : cptN eq l i = l.take i) (hn : eq (l.getD i default) (l.getD (i - 1) default) = false) : cptN eq l (i + 1) = l.take (i + 1) := by
  rw [cptN_new hn, h, take_succ' hi]
theorem getD_set_eq {ys : List α} {k : Nat} {v : α} (h : k < ys.length) : (ys.set k v).getD k default = v := by
  rw [List.getD_eq_getElem?_getD, List.getElem?_set_self h]; rfl
theorem getD_set_ne' {ys : List α} {k j : Nat} {v : α} (h : k ≠ j) : (ys.set k v).getD j default = ys.getD j default := by
  rw [List.getD_eq_getElem?_getD, List.getElem?_set_ne h, List.getD_eq_getElem?_getD]
theorem take_set_succ {ys : List α} {k : Nat} {v : α} (h : k < ys.length) : (ys.set k v).take (k + 1) = ys.take k ++ [v] := by
  rw [take_succ' (by simpa using h), getD_set_eq h, List.take_set_of_le (Nat.le_refl _)]
theorem cpt_put {ys : List α} {k q j : Nat} (hk : k < ys.length) (h : cptN eq l (q + j) = ys.take k) (hn : eq (l.getD (q + j) default) (l.getD (q + j - 1) default) = false) : cptN eq l (q + (j + 1)) = (ys.set k (l.getD (q + j) default)).take (k + 1) := by
  rw [← Nat.add_assoc, cptN_new hn, h, take_set_succ hk]
theorem cpt_skip {ys : List α} {k q j : Nat} (h0 : 0 < q + j) (h : cptN eq l (q + j) = ys.take k) (hn : eq (l.getD (q + j) default) (l.getD (q + j - 1) default) = true) : cptN eq l (q + (j + 1)) = ys.take k := by
  rw [← Nat.add_assoc, cptN_dup h0 hn, h]
theorem cpt_fin {f : α → AV} {ys : List α} {X : List AV} {k n : Nat} (hk : k ≤ ys.length) (hn : n = l.length) (h : cptN eq l n = ys.take k) : ((ys.map f).take k ++ X).take k = (cpt eq l).map f := by
  subst hn
  rw [List.take_append_of_le_length (by simp; omega), List.take_take, Nat.min_self, ← List.map_take, ← h]; rfl
theorem cpt_all {n : Nat} (hn : n = l.length) (h : cptN eq l n = l.take n) : cpt eq l = l := by
  subst hn; unfold cpt; rw [h, List.take_length]
end
def altF (x : Rx) : List Rx := if x.kind = 4 then x.kids else [x]
def altL (l : List Rx) : List Rx := l.flatMap altF
def putS (s : List Int) (x : Rx) : List Int := if x.kind = 2 then s ++ x.syms else s
def putK (k : List Rx) (x : Rx) : List Rx := if x.kind = 0 ∨ x.kind = 2 then k else k ++ [x]
def putSs (l : List Rx) : List Int := l.foldl putS []
def putKs (l : List Rx) : List Rx := l.foldl putK []
theorem altL_succ {l : List Rx} {i : Nat} (h : i < l.length) : altL (l.take (i + 1)) = altL (l.take i) ++ altF (l.getD i default) := by
  rw [take_succ' h, altL, List.flatMap_append]; simp [altL]
theorem get_lastm {α : Type} (f : α → AV) (l : List α) (z : AV) : (l.map f ++ [z])[l.length]? = some z := by
  rw [List.getElem?_append_right (by simp)]; simp
theorem set_last {α : Type} {f : α → AV} {l : List α} {z : AV} {v : α} : (l.map f ++ [z]).set l.length (f v) = (l ++ [v]).map f := by
  rw [List.set_append_right _ _ (by simp), List.length_map, Nat.sub_self, List.map_append]; rfl
theorem putS_2 {s : List Int} {x : Rx} (h : x.kind = 2) : putS s x = s ++ x.syms := if_pos h
theorem putS_x {s : List Int} {x : Rx} (h : x.kind ≠ 2) : putS s x = s := if_neg h
theorem putK_0 {k : List Rx} {x : Rx} (h : x.kind = 0 ∨ x.kind = 2) : putK k x = k := if_pos h
theorem putK_x {k : List Rx} {x : Rx} (h : ¬ (x.kind = 0 ∨ x.kind = 2)) : putK k x = k ++ [x] := if_neg h
end Go.Wb

namespace Go.Wb
open Go.Am
theorem orderI_neg (a b : Int) : orderI b a = - orderI a b := by unfold orderI; repeat' split
                                                                 all_goals omega
theorem orderI_zero {a b : Int} (h : orderI a b = 0) : a = b := by unfold orderI at h; repeat' split at h
                                                                   all_goals omega
theorem orderI_trans {a b c : Int} (h : orderI a b < 0) (h' : orderI b c < 0) : orderI a c < 0 := by
  unfold orderI at *
  have h1 : a < b := by
    by_cases q : a < b
    · exact q
    · rw [if_neg q] at h; split at h <;> omega
  have h2 : b < c := by
    by_cases q : b < c
    · exact q
    · rw [if_neg q] at h'; split at h' <;> omega
  rw [if_pos (by omega)]; decide
theorem thn_neg {a b c d : Int} (h : b = -a) (h' : d = -c) : thn b d = - thn a c := by
  unfold thn; subst h; subst h'
  by_cases q : a = 0
  · rw [if_pos (by omega), if_pos q]
  · rw [if_neg (by omega), if_neg q]
theorem thn_zeros {a b : Int} (h : thn a b = 0) : a = 0 ∧ b = 0 := by
  unfold thn at h
  by_cases q : a = 0
  · rw [if_pos q] at h; exact ⟨q, h⟩
  · rw [if_neg q] at h; exact absurd h q
theorem thn_trans {α β : Type} {f : α → α → Int} {g : β → β → Int} {a b c : α} {x y z : β} (hz : ∀ a b, f a b = 0 → a = b) (hft : f a b < 0 → f b c < 0 → f a c < 0) (hgt : g x y < 0 → g y z < 0 → g x z < 0)
    (h : thn (f a b) (g x y) < 0) (h' : thn (f b c) (g y z) < 0) : thn (f a c) (g x z) < 0 := by
  unfold thn at *
  by_cases q1 : f a b = 0
  · have := hz _ _ q1
    subst this
    rw [if_pos q1] at h
    by_cases q2 : f a c = 0
    · rw [if_pos q2] at h' ⊢; exact hgt h h'
    · rw [if_neg q2] at h' ⊢; exact h'
  · rw [if_neg q1] at h
    by_cases q2 : f b c = 0
    · have := hz _ _ q2
      subst this
      rw [if_neg q1]; exact h
    · rw [if_neg q2] at h'
      have := hft h h'
      rw [if_neg (by omega)]; exact this
theorem orderL_neg : ∀ a b : List Int, orderL b a = - orderL a b
  | [], [] => rfl
  | [], _ :: _ => rfl
  | _ :: _, [] => rfl
  | x :: xs, y :: ys => thn_neg (orderI_neg x y) (orderL_neg xs ys)
theorem orderL_zero : ∀ a b : List Int, orderL a b = 0 → a = b
  | [], [], _ => rfl
  | [], _ :: _, h => absurd (show (-1 : Int) = 0 from h) (by decide)
  | _ :: _, [], h => absurd (show (1 : Int) = 0 from h) (by decide)
  | x :: xs, y :: ys, h => by
    obtain ⟨h1, h2⟩ := thn_zeros h
    rw [orderI_zero h1, orderL_zero xs ys h2]
theorem orderL_trans : ∀ a b c : List Int, orderL a b < 0 → orderL b c < 0 → orderL a c < 0
  | [], [], c, h, _ => absurd h (by decide)
  | _ :: _, [], c, h, _ => absurd (show (1 : Int) < 0 from h) (by decide)
  | a, _ :: _, [], _, h => absurd (show (1 : Int) < 0 from h) (by decide)
  | [], _ :: _, _ :: _, _, _ => show (-1 : Int) < 0 by decide
  | x :: xs, y :: ys, z :: zs, h, h' => thn_trans (f := orderI) (g := orderL) (fun _ _ => orderI_zero) orderI_trans (orderL_trans xs ys zs) h h'
mutual
theorem cmpR_neg : ∀ a b : Rx, cmpR b a = - cmpR a b
  | .mk k s l, .mk k' s' l' => by
    rw [cmpR, cmpR]
    exact thn_neg (orderI_neg k k') (thn_neg (orderL_neg s s') (cmpRs_neg l l'))
theorem cmpRs_neg : ∀ a b : List Rx, cmpRs b a = - cmpRs a b
  | [], [] => by rw [cmpRs]; rfl
  | [], _ :: _ => by rw [cmpRs, cmpRs]; rfl
  | _ :: _, [] => by rw [cmpRs, cmpRs]
  | x :: xs, y :: ys => by
    rw [cmpRs, cmpRs]
    exact thn_neg (cmpR_neg x y) (cmpRs_neg xs ys)
end
mutual
theorem cmpR_zero : ∀ a b : Rx, cmpR a b = 0 → a = b
  | .mk k s l, .mk k' s' l', h => by
    rw [cmpR] at h
    obtain ⟨h1, h2⟩ := thn_zeros h
    obtain ⟨h2, h3⟩ := thn_zeros h2
    rw [orderI_zero h1, orderL_zero _ _ h2, cmpRs_zero _ _ h3]; rfl
theorem cmpRs_zero : ∀ a b : List Rx, cmpRs a b = 0 → a = b
  | [], [], _ => rfl
  | [], _ :: _, h => by rw [cmpRs] at h; exact absurd h (by decide)
  | _ :: _, [], h => by rw [cmpRs] at h; exact absurd h (by decide)
  | x :: xs, y :: ys, h => by
    rw [cmpRs] at h
    obtain ⟨h1, h2⟩ := thn_zeros h
    rw [cmpR_zero x y h1, cmpRs_zero xs ys h2]
end
mutual
theorem cmpR_trans : ∀ a b c : Rx, cmpR a b < 0 → cmpR b c < 0 → cmpR a c < 0
  | .mk k s l, .mk k' s' l', .mk k'' s'' l'', h, h' => by
    rw [cmpR] at h h' ⊢
    refine thn_trans (f := orderI) (g := fun (p q : List Int × List Rx) => thn (orderL p.1 q.1) (cmpRs p.2 q.2)) (x := (s, l)) (y := (s', l')) (z := (s'', l'')) (fun _ _ => orderI_zero) orderI_trans ?_ h h'
    exact fun g g' => thn_trans (f := orderL) (g := cmpRs) orderL_zero (orderL_trans _ _ _) (cmpRs_trans l l' l'') g g'
theorem cmpRs_trans : ∀ a b c : List Rx, cmpRs a b < 0 → cmpRs b c < 0 → cmpRs a c < 0
  | [], [], c, h, _ => by rw [cmpRs] at h; exact absurd h (by decide)
  | _ :: _, [], c, h, _ => by rw [cmpRs] at h; exact absurd h (by decide)
  | a, _ :: _, [], _, h => by rw [cmpRs] at h; exact absurd h (by decide)
  | [], _ :: _, _ :: _, _, _ => by rw [cmpRs]; decide
  | x :: xs, y :: ys, z :: zs, h, h' => by
    rw [cmpRs] at h h' ⊢
    exact thn_trans (f := cmpR) (g := cmpRs) cmpR_zero (cmpR_trans x y z) (cmpRs_trans xs ys zs) h h'
end
theorem cmpR_self (a : Rx) : cmpR a a = 0 := by have := cmpR_neg a a; omega
theorem cmpR_irr (a : Rx) : ¬ cmpR a a < 0 := by rw [cmpR_self]; decide
theorem cmpR_tot {a b : Rx} (h : ¬ cmpR a b < 0) (h' : ¬ cmpR b a < 0) : a = b := cmpR_zero a b (by have := cmpR_neg a b; omega)

def altS (l : List Rx) : List Int := putSs (altL l)
def altK (l : List Rx) : List Rx := putKs (altL l)
section
variable {α : Type} {le : α → α → Bool}
def insB (le : α → α → Bool) (x : α) : List α → List α
  | [] => [x]
  | y :: l => if le x y = true then x :: y :: l else y :: insB le x l
def isortB (le : α → α → Bool) : List α → List α
  | [] => []
  | x :: l => insB le x (isortB le l)
theorem insB_perm (x : α) : ∀ l : List α, (insB le x l).Perm (x :: l)
  | [] => .refl _
  | y :: l => by
    rw [insB]
    split
    · exact .refl _
    · exact ((insB_perm x l).cons y).trans (.swap x y l)
theorem isort_perm : ∀ l : List α, (isortB le l).Perm l
  | [] => .refl _
  | x :: l => (insB_perm x _).trans ((isort_perm l).cons x)
theorem insB_pw (tr : ∀ a b c, le a b = true → le b c = true → le a c = true) (to : ∀ a b, (le a b || le b a) = true) (x : α) : ∀ {l : List α}, (l.Pairwise fun x y => le x y = true) → (insB le x l).Pairwise fun x y => le x y = true
  | [], _ => List.pairwise_singleton _ _
  | y :: l, h => by
    have h' := List.pairwise_cons.1 h
    rw [insB]
    split
    · next hxy => exact List.pairwise_cons.2 ⟨fun z hz => (List.mem_cons.1 hz).elim (fun e => by rw [e]; exact hxy) fun hz => tr _ _ _ hxy (h'.1 z hz), h⟩
    · next hxy =>
      have hyx : le y x = true := by have := to x y; rw [Bool.or_eq_true] at this; exact this.elim (fun q => absurd q hxy) id
      refine List.pairwise_cons.2 ⟨fun z hz => ?_, insB_pw tr to x h'.2⟩
      rcases List.mem_cons.1 ((insB_perm x l).mem_iff.1 hz) with e | hz
      · rw [e]; exact hyx
      · exact h'.1 z hz
theorem isort_pw (tr : ∀ a b c, le a b = true → le b c = true → le a c = true) (to : ∀ a b, (le a b || le b a) = true) : ∀ l : List α, (isortB le l).Pairwise fun x y => le x y = true
  | [] => .nil
  | x :: l => insB_pw tr to x (isort_pw tr to l)
theorem perm_sorted (an : ∀ a b, le a b = true → le b a = true → a = b) : ∀ {l m : List α}, l.Perm m → (l.Pairwise fun x y => le x y = true) → (m.Pairwise fun x y => le x y = true) → l = m
  | [], m, h, _, _ => (List.nil_perm.1 h).symm
  | x :: l, [], h, _, _ => absurd h.length_eq (by simp)
  | x :: l, y :: m, h, h1, h2 => by
    have h1' := List.pairwise_cons.1 h1
    have h2' := List.pairwise_cons.1 h2
    have e : x = y := by
      rcases List.mem_cons.1 (h.mem_iff.1 List.mem_cons_self) with q | q
      · exact q
      · rcases List.mem_cons.1 (h.mem_iff.2 List.mem_cons_self) with q' | q'
        · exact q'.symm
        · exact an _ _ (h1'.1 y q') (h2'.1 x q)
    subst e
    rw [perm_sorted an (List.Perm.cons_inv h) h1'.2 h2'.2]
theorem isort_merge (tr : ∀ a b c, le a b = true → le b c = true → le a c = true) (to : ∀ a b, (le a b || le b a) = true) (an : ∀ a b, le a b = true → le b a = true → a = b) (l : List α) : l.mergeSort le = isortB le l :=
  perm_sorted an ((List.mergeSort_perm l le).trans (isort_perm l).symm) (List.pairwise_mergeSort tr to l) (isort_pw tr to l)
end
abbrev leR (x y : Rx) : Bool := !decide (cmpR y x < 0)
abbrev leI (x y : Int) : Bool := decide (x ≤ y)
def sortI (s : List Int) : List Int := isortB leI s
def sortR (k : List Rx) : List Rx := isortB leR k
theorem leR_iff {x y : Rx} : leR x y = true ↔ cmpR x y ≤ 0 := by
  have := cmpR_neg x y; show (!decide (cmpR y x < 0)) = true ↔ _; rw [Bool.not_eq_true', decide_eq_false_iff_not]; omega
theorem leR_an (a b : Rx) (h : leR a b = true) (h' : leR b a = true) : a = b := cmpR_zero _ _ (by have := leR_iff.1 h; have := leR_iff.1 h'; have := cmpR_neg a b; omega)
theorem leR_tr (a b c : Rx) (h : leR a b = true) (h' : leR b c = true) : leR a c = true := by
  rw [leR_iff] at *
  by_cases h1 : cmpR a b = 0
  · rw [cmpR_zero _ _ h1]; exact h'
  · by_cases h2 : cmpR b c = 0
    · rw [← cmpR_zero _ _ h2]; exact h
    · exact Int.le_of_lt (cmpR_trans a b c (by omega) (by omega))
theorem leR_to (a b : Rx) : (leR a b || leR b a) = true := by
  rw [Bool.or_eq_true, leR_iff, leR_iff]; have := cmpR_neg a b; omega
theorem leI_an (a b : Int) (h : leI a b = true) (h' : leI b a = true) : a = b := by have := of_decide_eq_true h; have := of_decide_eq_true h'; omega
theorem leI_tr (a b c : Int) (h : leI a b = true) (h' : leI b c = true) : leI a c = true := by have := of_decide_eq_true h; have := of_decide_eq_true h'; exact decide_eq_true (by omega)
theorem leI_to (a b : Int) : (leI a b || leI b a) = true := by rw [Bool.or_eq_true, decide_eq_true_eq, decide_eq_true_eq]; omega
theorem sortR_merge (k : List Rx) : (k.mergeSort fun x y => !decide (cmpR y x < 0)) = sortR k := isort_merge leR_tr leR_to leR_an k
theorem sortI_merge (s : List Int) : (s.mergeSort fun x y => decide (x ≤ y)) = sortI s := isort_merge leI_tr leI_to leI_an s
abbrev eqI (x y : Int) : Bool := decide (x = y)
abbrev eqR (x y : Rx) : Bool := decide (cmpR x y = 0)
def altM (s : List Int) (k : List Rx) : List Rx := if 0 < s.length then k ++ [.mk 2 (cpt eqI (sortI s)) []] else k
def altD (l : List Rx) : List Rx := cpt eqR (sortR (altM (altS l) (altK l)))
def altC (k : List Rx) : List Rx := if 1 < k.length ∧ (k.getD 0 default).kind = 1 ∧ (k.drop 1).any accR = true then k.drop 1 else k
def altE (k : List Rx) : Rx := if k.length = 0 then noneRx else if k.length = 1 then k.getD 0 default else .mk 4 [] k
def altN (l : List Rx) : Rx := altE (altC (altD l))
theorem altE_0 {k : List Rx} (h : k.length = 0) : altE k = noneRx := if_pos h
theorem altE_1 {k : List Rx} (h : k.length = 1) : altE k = k.getD 0 default := by unfold altE; rw [if_neg (by omega), if_pos h]
theorem altE_2 {k : List Rx} (h : k.length ≠ 0) (h1 : k.length ≠ 1) : altE k = .mk 4 [] k := by unfold altE; rw [if_neg h, if_neg h1]
theorem altC_t {k : List Rx} (h : 1 < k.length) (h1 : (k.getD 0 default).kind = 1) (h2 : (k.drop 1).any accR = true) : altC k = k.drop 1 := if_pos ⟨h, h1, h2⟩
theorem altC_f {k : List Rx} (h : ¬ (1 < k.length ∧ (k.getD 0 default).kind = 1 ∧ (k.drop 1).any accR = true)) : altC k = k := if_neg h
theorem altM_t {s : List Int} {k : List Rx} (h : 0 < s.length) : altM s k = k ++ [.mk 2 (cpt eqI (sortI s)) []] := if_pos h
theorem altM_f {s : List Int} {k : List Rx} (h : ¬ 0 < s.length) : altM s k = k := if_neg h
theorem altF_4 {x : Rx} (h : x.kind = 4) : altF x = x.kids := if_pos h
theorem altF_x {x : Rx} (h : x.kind ≠ 4) : altF x = [x] := if_neg h
theorem putSs_app (l : List Rx) (x : Rx) : putSs (l ++ [x]) = putS (putSs l) x := by unfold putSs; rw [List.foldl_append]; rfl
theorem putKs_app (l : List Rx) (x : Rx) : putKs (l ++ [x]) = putK (putKs l) x := by unfold putKs; rw [List.foldl_append]; rfl
theorem putSs_kid {m l : List Rx} {j : Nat} (h : j < l.length) : putSs (m ++ l.take (j + 1)) = putS (putSs (m ++ l.take j)) (l.getD j default) := by
  rw [take_succ' h, ← List.append_assoc, putSs_app]
theorem putKs_kid {m l : List Rx} {j : Nat} (h : j < l.length) : putKs (m ++ l.take (j + 1)) = putK (putKs (m ++ l.take j)) (l.getD j default) := by
  rw [take_succ' h, ← List.append_assoc, putKs_app]
def putsB (l : List Rx) : Nat := (putSs l).length + Rx.sizes (putKs l)
theorem puts_len (l : List Rx) : ∀ m : List Rx, (putSs (m ++ l)).length + Rx.sizes (putKs (m ++ l)) ≤ (putSs m).length + Rx.sizes (putKs m) + Rx.sizes l := by
  induction l with
  | nil => intro m; rw [List.append_nil]; omega
  | cons x l ih =>
    intro m
    have h := ih (m ++ [x])
    rw [List.append_assoc, List.singleton_append, putSs_app, putKs_app] at h
    rw [Rx.sizes]
    have h1 : (putS (putSs m) x).length + Rx.sizes (putK (putKs m) x) ≤ (putSs m).length + Rx.sizes (putKs m) + x.size := by
      unfold putS putK
      have := syms_len x
      by_cases h2 : x.kind = 2
      · rw [if_pos h2, if_pos (.inr h2), List.length_append]; omega
      · rw [if_neg h2]
        split
        · omega
        · rw [sizes_append, Rx.sizes, Rx.sizes]; omega
    omega
theorem puts_bd (l : List Rx) : (putSs l).length + Rx.sizes (putKs l) ≤ Rx.sizes l := by
  have := puts_len l []
  rw [List.nil_append] at this
  have h1 : (putSs []).length + Rx.sizes (putKs []) = 0 := by rfl
  omega
theorem sizes_altL : ∀ l : List Rx, Rx.sizes (altL l) ≤ Rx.sizes l
  | [] => Nat.le_refl _
  | x :: l => by
    have := sizes_altL l
    have e : altL (x :: l) = altF x ++ altL l := rfl
    rw [e, sizes_append, Rx.sizes]
    have h : Rx.sizes (altF x) ≤ x.size := by
      unfold altF
      split
      · rw [size_eq]; omega
      · rw [Rx.sizes, Rx.sizes]; omega
    omega
theorem sizes_take_le (l : List Rx) (i : Nat) : Rx.sizes (l.take i) ≤ Rx.sizes l := by have := sizes_take_drop l i; omega
theorem sizes_perm {l m : List Rx} (h : l.Perm m) : Rx.sizes l = Rx.sizes m := by
  induction h with
  | nil => rfl
  | cons x _ ih => rw [Rx.sizes, Rx.sizes, ih]
  | swap x y l => rw [Rx.sizes, Rx.sizes, Rx.sizes, Rx.sizes]; omega
  | trans _ _ h1 h2 => omega
theorem cptN_mem {α : Type} [Inhabited α] {eq : α → α → Bool} {l : List α} {x : α} : ∀ i, i ≤ l.length → x ∈ cptN eq l i → x ∈ l := by
  intro i
  induction i with
  | zero => intro _ h; cases h
  | succ i ih =>
    intro hi h
    rw [cptN] at h
    split at h
    · exact ih (by omega) h
    · rcases List.mem_append.1 h with h | h
      · exact ih (by omega) h
      · rw [List.mem_singleton] at h
        subst h
        rw [List.getD_eq_getElem?_getD, List.getElem?_eq_getElem (by omega)]
        exact List.getElem_mem (by omega)
theorem cpt_mem {α : Type} [Inhabited α] {eq : α → α → Bool} {l : List α} {x : α} (h : x ∈ cpt eq l) : x ∈ l := cptN_mem _ (Nat.le_refl _) h
theorem cpt_len {α : Type} [Inhabited α] {eq : α → α → Bool} {l : List α} : (cpt eq l).length ≤ l.length := cptN_len _
abbrev rxc (r : Rx) : List AV := [int r.kind, ints r.syms, .sl (Rx.avs r.kids)]
theorem alt_bd (l : List Rx) : (altS l).length + Rx.sizes (altK l) ≤ Rx.sizes l := Nat.le_trans (puts_bd _) (sizes_altL l)
theorem sortI_len (s : List Int) : (sortI s).length = s.length := (isort_perm s).length_eq
theorem sortR_len (k : List Rx) : (sortR k).length = k.length := (isort_perm k).length_eq
theorem sortR_mem {k : List Rx} {x : Rx} : x ∈ sortR k ↔ x ∈ k := (isort_perm k).mem_iff
theorem altM_sizes (s : List Int) (k : List Rx) : Rx.sizes (altM s k) ≤ 1 + s.length + Rx.sizes k := by
  unfold altM
  split
  · rw [sizes_append, Rx.sizes, Rx.sizes, Rx.size, Rx.sizes]
    have := cpt_len (eq := eqI) (l := sortI s)
    rw [sortI_len] at this
    omega
  · omega
theorem altD_mem {l : List Rx} {x : Rx} (h : x ∈ altD l) : x ∈ altM (altS l) (altK l) := sortR_mem.1 (cpt_mem h)
end Go.Wb

namespace Go.Wb
open Go.Am
theorem starN_e {x : Rx} (h : x.kind = 0 ∨ x.kind = 1) : starN x = emptyRx := if_pos h
theorem starN_5 {x : Rx} (h : x.kind = 5) : starN x = x := by unfold starN; rw [if_neg (by omega), if_pos h]
theorem starN_x {x : Rx} (h : ¬ (x.kind = 0 ∨ x.kind = 1)) (h5 : x.kind ≠ 5) : starN x = .mk 5 [] [starB x] := by unfold starN; rw [if_neg h, if_neg h5]
theorem starB_n {x : Rx} (h : ¬ (x.kind = 4 ∧ (x.kids.getD 0 default).kind = 1)) : starB x = x := if_neg h
theorem starB_2 {x : Rx} (h : x.kind = 4 ∧ (x.kids.getD 0 default).kind = 1) (h2 : x.kids.length = 2) : starB x = x.kids.getD 1 default := by unfold starB; rw [if_pos h, if_pos h2]
theorem starB_m {x : Rx} (h : x.kind = 4 ∧ (x.kids.getD 0 default).kind = 1) (h2 : x.kids.length ≠ 2) : starB x = .mk x.kind x.syms (x.kids.drop 1) := by unfold starB; rw [if_pos h, if_neg h2]
theorem getD_drop1 {α : Type} [Inhabited α] {l : List α} : (l.drop 1).getD 0 default = l.getD 1 default := by cases l <;> simp
theorem rxs_one (y : Rx) : rxs [y] = .sl [rx y] := rfl
theorem rx_mk' (x : Rx) (l : List Rx) : rx (.mk x.kind x.syms l) = .agg [int x.kind, ints x.syms, rxs l] := rx_eq _
mutual
def buildR (t : Bool) : Rx → Rx
  | .mk k s l => if k = 3 then seqN (if t then (buildRs t l).reverse else buildRs t l) else if k = 4 then altN (buildRs t l) else if k = 5 then starN ((buildRs t l).getD 0 default) else .mk k s []
def buildRs (t : Bool) : List Rx → List Rx
  | [] => []
  | x :: l => buildR t x :: buildRs t l
end
theorem buildRs_map (t : Bool) : ∀ l : List Rx, buildRs t l = l.map (buildR t)
  | [] => by rw [buildRs]; rfl
  | x :: l => by rw [buildRs, buildRs_map t l]; rfl
theorem buildR_eq (t : Bool) (r : Rx) : buildR t r = if r.kind = 3 then seqN (if t then (r.kids.map (buildR t)).reverse else r.kids.map (buildR t)) else if r.kind = 4 then altN (r.kids.map (buildR t)) else
    if r.kind = 5 then starN ((r.kids.map (buildR t)).getD 0 default) else .mk r.kind r.syms [] := by
  cases r with | mk k s l => rw [buildR, buildRs_map]; rfl
theorem buildR_3f {r : Rx} (h : r.kind = 3) : buildR false r = seqN (r.kids.map (buildR false)) := by rw [buildR_eq, if_pos h]; rfl
theorem buildR_3t {r : Rx} (h : r.kind = 3) : buildR true r = seqN (r.kids.map (buildR true)).reverse := by rw [buildR_eq, if_pos h]; rfl
theorem buildR_3y {t : Bool} {r : Rx} (h : r.kind = 3) (ht : t = true) : buildR t r = seqN (r.kids.map (buildR t)).reverse := by rw [ht]; exact buildR_3t h
theorem buildR_3n {t : Bool} {r : Rx} (h : r.kind = 3) (ht : t = false) : buildR t r = seqN (r.kids.map (buildR t)) := by rw [ht]; exact buildR_3f h
theorem buildR_4 {t : Bool} {r : Rx} (h : r.kind = 4) : buildR t r = altN (r.kids.map (buildR t)) := by rw [buildR_eq, if_neg (by omega), if_pos h]
theorem buildR_5 {t : Bool} {r : Rx} (h : r.kind = 5) : buildR t r = starN ((r.kids.map (buildR t)).getD 0 default) := by rw [buildR_eq, if_neg (by omega), if_neg (by omega), if_pos h]
theorem buildR_x {t : Bool} {r : Rx} (h : r.kind ≠ 3) (h4 : r.kind ≠ 4) (h5 : r.kind ≠ 5) : buildR t r = .mk r.kind r.syms [] := by rw [buildR_eq, if_neg h, if_neg h4, if_neg h5]
theorem getD_map {α β : Type} [Inhabited α] [Inhabited β] {f : α → β} {l : List α} {i : Nat} (h : i < l.length) : (l.map f).getD i default = f (l.getD i default) := by
  rw [List.getD_eq_getElem?_getD, List.getElem?_map, List.getD_eq_getElem?_getD, List.getElem?_eq_getElem h]; rfl
def Revd {α : Type} [Inhabited α] (l ys : List α) (i : Nat) : Prop := ys.length = l.length ∧ ∀ k, k < l.length → ys.getD k default = if k < i ∨ l.length ≤ k + i then l.getD (l.length - 1 - k) default else l.getD k default
theorem getD_set {α : Type} [Inhabited α] {ys : List α} {k j : Nat} {v : α} (h : k < ys.length) : (ys.set k v).getD j default = if k = j then v else ys.getD j default := by
  split
  · next e => rw [← e, getD_set_eq h]
  · next e => rw [getD_set_ne' e]
end Go.Wb

