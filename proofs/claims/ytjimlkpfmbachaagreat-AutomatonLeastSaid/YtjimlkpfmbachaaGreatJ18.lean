/-
  Plain functions: complements, joins, reversals of automata.
-/
import Derived.Test.YtjimlkpfmbachaaGreatJ17
import Derived.Test.YtjimlkpfmbachaaGreatJ14
set_option linter.unusedVariables false
set_option linter.unusedSectionVars false
set_option linter.unusedSimpArgs false
namespace Go.Wd
set_option linter.unusedVariables false
open Go.Am
def zeroD : Dfa := ⟨0, [], []⟩
def minZ (d : Dfa) : Dfa := if validD d = true then minP d else zeroD
theorem minZ_t {d : Dfa} (h : validD d = true) : minZ d = minP d := if_pos h
theorem minZ_f {d : Dfa} (h : validD d = false) : minZ d = zeroD := if_neg (by rw [h]; decide)
def fl (n : Nat) : List Nat → Nat → List Nat
  | [], _ => List.replicate n 0
  | c :: r, j => (fl n r (j + 1)).set c j
theorem fl_len (n : Nat) : ∀ (l : List Nat) (j : Nat), (fl n l j).length = n
  | [], _ => List.length_replicate
  | c :: r, j => by rw [fl, List.length_set, fl_len n r]
theorem fl_get {n : Nat} : ∀ {l : List Nat} {j c : Nat}, (∀ x ∈ l, x < n) → c ∈ l → (fl n l j).getD c 0 = j + idx l c
  | [], _, _, _, h => by cases h
  | a :: r, j, c, hl, h => by
    rw [fl, List.getD_eq_getElem?_getD, List.getElem?_set]
    by_cases q : a = c
    · subst q
      rw [if_pos rfl, if_pos (by rw [fl_len]; exact hl a List.mem_cons_self)]
      unfold idx; rw [List.idxOf_cons_self]; rfl
    · have hc : c ∈ r := by rcases List.mem_cons.1 h with e | h; exact absurd e.symm q; exact h
      rw [if_neg q, ← List.getD_eq_getElem?_getD, fl_get (fun x hx => hl x (List.mem_cons_of_mem _ hx)) hc]
      unfold idx
      rw [List.idxOf_cons, beq_eq_false_iff_ne.2 q]
      show j + 1 + List.idxOf c r = j + (List.idxOf c r + 1)
      omega
theorem fl_step {n : Nat} {cl : List Nat} {q : Nat} (h : q < cl.length) : fl n (cl.drop q) q = (fl n (cl.drop (q + 1)) (q + 1)).set (cl.getD q default) q := by
  rw [List.drop_eq_getElem_cons h, el_get h, fl]
theorem fl_stepI {n : Nat} {cl : List Nat} {q : Nat} (h : q < cl.length) : ((fl n (cl.drop (q + 1)) (q + 1)).map natI).set (cl.getD q default) (natI q) = (fl n (cl.drop q) q).map natI := by
  rw [fl_step h, List.map_set]
theorem fl_start (n : Nat) (cl : List Nat) : fl n (cl.drop cl.length) cl.length = List.replicate n 0 := by rw [List.drop_length]; rfl
section
variable {d : Dfa}
theorem cls_lt (hd : okD d) : ∀ x ∈ clsF d, x < d.n := by
  have key : ∀ (f c : Nat) (cl : List Nat), (∀ x ∈ cl, x < d.n) → ∀ x ∈ clsIt d f c cl, x < d.n := by
    intro f
    induction f with
    | zero => intro c cl _; exact step_lt cl
    | succ f ih =>
      intro c cl h
      rw [clsIt]
      split
      · exact step_lt cl
      · exact ih _ _ (step_lt cl)
  exact key _ _ _ fun x hx => by rw [(List.mem_replicate.1 hx).2]; exact hd.1.2.1.1
theorem first_get (hd : okD d) {c : Nat} (hc : c ∈ clsF d) : (fl d.n (clsF d) 0).getD c 0 = idx (clsF d) c := by
  rw [fl_get (cls_lt hd) hc]; omega
/-! the reference's numbers -/
def nm (n : Nat) (l : List Nat) : List Int := (List.range n).map fun c => if c ∈ l then ((idx l c : Nat) : Int) else -1
theorem nm_len (n : Nat) (l : List Nat) : (nm n l).length = n := by unfold nm; simp
theorem nm_get {n : Nat} {l : List Nat} {c : Nat} (hc : c < n) : (nm n l).getD c default = if c ∈ l then ((idx l c : Nat) : Int) else -1 := by
  unfold nm; rw [List.getD_eq_getElem?_getD, List.getElem?_map, List.getElem?_range hc]; rfl
theorem nm_nil (n : Nat) : nm n [] = List.replicate n (-1) := by
  unfold nm
  refine List.ext_getElem (by simp) fun i h1 h2 => ?_
  simp
theorem nm_el {n : Nat} {l : List Nat} {i : Nat} (h : i < (nm n l).length) : (nm n l)[i] = if i ∈ l then ((idx l i : Nat) : Int) else -1 := by simp [nm]
theorem nm_snoc {n : Nat} {l : List Nat} {c : Nat} (hc : c < n) (h : c ∉ l) : (nm n l).set c (l.length : Int) = nm n (l ++ [c]) := by
  refine List.ext_getElem (by rw [List.length_set, nm_len, nm_len]) fun i h1 h2 => ?_
  rw [List.getElem_set, nm_el, nm_el]
  by_cases q : c = i
  · subst q
    rw [if_pos rfl, if_pos (by simp), idx_snoc h]
  · rw [if_neg q]
    by_cases q2 : i ∈ l
    · rw [if_pos q2, if_pos (List.mem_append_left _ q2), idx_pre (List.prefix_append l [c]) q2]
    · rw [if_neg q2, if_neg fun q3 => by rcases List.mem_append.1 q3 with q3 | q3; exact q2 q3; exact q (List.mem_singleton.1 q3).symm]
theorem nm_snocI {n : Nat} {l : List Nat} {c : Nat} (hc : c < n) (h : c ∉ l) : ((nm n l).map int).set c (natI l.length) = (nm n (l ++ [c])).map int := by
  rw [← nm_snoc hc h, List.map_set]
def mo (n i : Nat) : List Int := List.replicate i (-1) ++ List.replicate (n - i) 0
theorem mo_len {n i : Nat} (h : i ≤ n) : (mo n i).length = n := by unfold mo; simp; omega
theorem mo_set {n i : Nat} (h : i < n) : ((mo n i).map int).set i (int (-1)) = (mo n (i + 1)).map int := by
  rw [← List.map_set]
  unfold mo
  rw [List.set_append_right _ _ (by simp), List.length_replicate, Nat.sub_self, show n - i = (n - (i + 1)) + 1 by omega, List.replicate_succ, List.set_cons_zero, List.replicate_succ' (n := i)]
  simp
theorem mo_all (n : Nat) : mo n n = nm n [] := by rw [nm_nil]; unfold mo; simp
theorem mo_zero (n : Nat) : mo n 0 = List.replicate n 0 := by unfold mo; simp
structure Rp (d : Dfa) (l st : List Nat) : Prop where
  map : st.map (fun q => (clsF d).getD q 0) = l
  lt : ∀ q ∈ st, q < d.n
theorem Rp.len {l st : List Nat} (h : Rp d l st) : st.length = l.length := by rw [← h.map, List.length_map]
theorem Rp.at {l st : List Nat} (h : Rp d l st) {i : Nat} (hi : i < st.length) : (clsF d).getD (st.getD i default) 0 = l.getD i default := by
  have hl := h.len
  rw [el_get (show i < l.length by omega), el_get hi]
  have := congrArg (fun m : List Nat => m[i]?) h.map
  simp only [List.getElem?_map, List.getElem?_eq_getElem hi, Option.map_some] at this
  rw [List.getElem?_eq_getElem (by omega)] at this
  injection this
theorem Rp.snoc {l st : List Nat} (h : Rp d l st) {q : Nat} (hq : q < d.n) : Rp d (l ++ [(clsF d).getD q 0]) (st ++ [q]) := ⟨by rw [List.map_append, h.map]; rfl, fun x hx => by
  rcases List.mem_append.1 hx with hx | hx
  · exact h.lt x hx
  · rw [List.mem_singleton.1 hx]; exact hq⟩
theorem nm_neg {n c : Nat} {l : List Nat} (hc : c < n) (h : (nm n l).getD c default < 0) : c ∉ l := fun q => by
  rw [nm_get hc, if_pos q] at h; omega
theorem nm_pos {n c : Nat} {l : List Nat} (hc : c < n) (h : 0 ≤ (nm n l).getD c default) : c ∈ l := Decidable.byContradiction fun q => by
  rw [nm_get hc, if_neg q] at h; omega
theorem nm_hit {n c : Nat} {l : List Nat} (hc : c < n) (h : c ∈ l) : (nm n l).getD c default = ((idx l c : Nat) : Int) := by rw [nm_get hc, if_pos h]
theorem min_cells {l : List Nat} (hd : okD d) (h : reach (mnext d) d.k d.n (mstart d) = l) : minP d = ⟨d.size, rowsX (mnext d) d.k l l, finX (mfin d) l⟩ := by
  unfold minP mlist mkD rowsX finX
  rw [h, (kk hd).1]
theorem rI_all {K : Type} [DecidableEq K] {next : K → Nat → K} {size : Nat} {x : K} {l : List K} : rI next x l size = rB next size x l size := by unfold rB; simp
theorem pre_at {α : Type} [Inhabited α] {l m : List α} (h : l <+: m) {i : Nat} (hi : i < l.length) : m.getD i default = l.getD i default := by
  obtain ⟨r, rfl⟩ := h
  rw [List.getD_eq_getElem?_getD, List.getElem?_append_left hi, ← List.getD_eq_getElem?_getD]
end
end Go.Wd

namespace Go.Wd
set_option linter.unusedVariables false
def lexB : List Nat → List Nat → Bool
  | [], _ => false
  | _, [] => false
  | x :: v, y :: w => if x = y then lexB v w else decide (x < y)
def ahead (v w : List Nat) : Bool := if v.length ≠ w.length then decide (v.length < w.length) else lexB v w
theorem lex_irr : ∀ v : List Nat, lexB v v = false
  | [] => rfl
  | x :: v => by rw [lexB, if_pos rfl, lex_irr v]
theorem lex_tot : ∀ {v w : List Nat}, v.length = w.length → v ≠ w → lexB v w = true ∨ lexB w v = true
  | [], [], _, h => absurd rfl h
  | x :: v, y :: w, hl, h => by
    rw [lexB, lexB]
    by_cases e : x = y
    · subst e
      rw [if_pos rfl, if_pos rfl]
      exact lex_tot (by simpa using hl) fun q => h (by rw [q])
    · rw [if_neg e, if_neg (Ne.symm e), decide_eq_true_eq, decide_eq_true_eq]; omega
theorem lex_asymm : ∀ {v w : List Nat}, lexB v w = true → lexB w v = false
  | [], _, h => by cases h
  | x :: v, [], h => by cases h
  | x :: v, y :: w, h => by
    rw [lexB] at h ⊢
    by_cases e : x = y
    · subst e
      rw [if_pos rfl] at h ⊢; exact lex_asymm h
    · rw [if_neg e, decide_eq_true_eq] at h
      rw [if_neg (Ne.symm e)]
      exact decide_eq_false (by omega)
theorem ahead_asymm {v w : List Nat} (h : ahead v w = true) : ahead w v = false := by
  unfold ahead at h ⊢
  by_cases e : v.length = w.length
  · rw [if_neg (by omega)] at h ⊢; exact lex_asymm h
  · rw [if_pos e, decide_eq_true_eq] at h
    rw [if_pos (Ne.symm e)]
    exact decide_eq_false (by omega)
theorem ahead_tot {v w : List Nat} (h : v ≠ w) : ahead v w = true ∨ ahead w v = true := by
  unfold ahead
  by_cases e : v.length = w.length
  · rw [if_neg (by omega), if_neg (by omega)]; exact lex_tot e h
  · rw [if_pos e, if_pos (Ne.symm e), decide_eq_true_eq, decide_eq_true_eq]; omega
def IsLeast (P : List Nat → Prop) (w : List Nat) : Prop := P w ∧ ∀ v, P v → ahead v w = false
theorem least_unique {P : List Nat → Prop} {v w : List Nat} (hv : IsLeast P v) (hw : IsLeast P w) : v = w := by
  refine Classical.byContradiction fun h => ?_
  rcases ahead_tot h with q | q
  · rw [hw.2 v hv.1] at q; cases q
  · rw [hv.2 w hw.1] at q; cases q
theorem lex_trans : ∀ {u v w : List Nat}, u.length = v.length → v.length = w.length → lexB u v = true → lexB v w = true → lexB u w = true
  | [], _, _, _, _, h, _ => by cases h
  | x :: u, [], _, _, _, h, _ => by cases h
  | x :: u, y :: v, [], _, _, _, h => by cases h
  | x :: u, y :: v, z :: w, h1, h2, h, g => by
    rw [lexB] at h g ⊢
    by_cases e : x = y
    · subst e
      rw [if_pos rfl] at h
      by_cases e2 : x = z
      · subst e2
        rw [if_pos rfl] at g ⊢
        exact lex_trans (by simpa using h1) (by simpa using h2) h g
      · rw [if_neg e2] at g ⊢; exact g
    · rw [if_neg e, decide_eq_true_eq] at h
      by_cases e2 : y = z
      · subst e2
        rw [if_neg e, decide_eq_true_eq]; exact h
      · rw [if_neg e2, decide_eq_true_eq] at g
        rw [if_neg (by omega), decide_eq_true_eq]; omega
theorem ahead_trans {u v w : List Nat} (h : ahead u v = true) (g : ahead v w = true) : ahead u w = true := by
  unfold ahead at *
  by_cases e1 : u.length = v.length
  · by_cases e2 : v.length = w.length
    · rw [if_neg (by omega)] at h g ⊢
      exact lex_trans e1 e2 h g
    · rw [if_pos e2, decide_eq_true_eq] at g
      rw [if_pos (by omega), decide_eq_true_eq]; omega
  · rw [if_pos e1, decide_eq_true_eq] at h
    by_cases e2 : v.length = w.length
    · rw [if_pos (by omega), decide_eq_true_eq]; omega
    · rw [if_pos e2, decide_eq_true_eq] at g
      rw [if_pos (by omega), decide_eq_true_eq]; omega
theorem lex_snoc : ∀ {v w : List Nat} {a b : Nat}, v.length = w.length → lexB (v ++ [a]) (w ++ [b]) = if v = w then decide (a < b) else lexB v w
  | [], [], a, b, _ => by
    rw [if_pos rfl]
    show lexB [a] [b] = _
    rw [lexB]
    by_cases e : a = b
    · rw [if_pos e]
      show false = _
      exact (decide_eq_false (by omega)).symm
    · rw [if_neg e]
  | x :: v, y :: w, a, b, h => by
    show lexB (x :: (v ++ [a])) (y :: (w ++ [b])) = _
    rw [lexB, lexB, lex_snoc (by simpa using h)]
    by_cases e : x = y
    · subst e
      rw [if_pos rfl, if_pos rfl]
      by_cases e2 : v = w
      · rw [if_pos e2, if_pos (by rw [e2])]
      · rw [if_neg e2, if_neg fun q => e2 (by injection q)]
    · rw [if_neg e, if_neg e, if_neg fun q => e (by injection q)]
section
variable {K : Type} [DecidableEq K] (next : K → Nat → K) (size : Nat)
abbrev Pth (K : Type) : Type := K × List Nat
def addW (l : List (Pth K)) (k : K) (w : List Nat) : List (Pth K) := if k ∈ l.map (·.1) then l else l ++ [(k, w)]
def growW (p : Pth K) (l : List (Pth K)) : Nat → List (Pth K)
  | 0 => l
  | s + 1 => addW (growW p l s) (next p.1 s) (p.2 ++ [s])
def seekW (good : K → Bool) : Nat → Nat → List (Pth K) → Option (List Nat)
  | 0, _, _ => none
  | f + 1, i, l => match l[i]? with
    | none => none
    | some p => if good p.1 = true then some p.2 else seekW good f (i + 1) (growW next p l size)
variable {next size}
def Inc (l : List (Pth K)) : Prop := l.Pairwise fun p q => ahead p.2 q.2 = true
end
end Go.Wd

namespace Go.Wd
set_option linter.unusedVariables false
def leqW (u v : List Nat) : Prop := u = v ∨ ahead u v = true
theorem leqW.not {u v : List Nat} (h : leqW u v) : ahead v u = false := by
  rcases h with rfl | h
  · unfold ahead; rw [if_neg (by simp), lex_irr]
  · exact ahead_asymm h
theorem leqW.trans {u v w : List Nat} (h : leqW u v) (g : leqW v w) : leqW u w := by
  rcases h with rfl | h
  · exact g
  · rcases g with rfl | g
    · exact .inr h
    · exact .inr (ahead_trans h g)
theorem ahead_nil {v : List Nat} (h : v ≠ []) : ahead [] v = true := by
  have : 0 < v.length := List.length_pos_iff.2 h
  unfold ahead
  rw [if_pos (show ([] : List Nat).length ≠ v.length by simp only [List.length_nil]; omega)]
  exact decide_eq_true (by simpa using this)
theorem ahead_more (v : List Nat) (s : Nat) : ahead v (v ++ [s]) = true := by
  unfold ahead
  rw [if_pos (by simp), List.length_append]
  exact decide_eq_true (by simp)
theorem ahead_snoc {u v : List Nat} {t s : Nat} (h : ahead u v = true ∨ (u = v ∧ t < s)) : ahead (u ++ [t]) (v ++ [s]) = true := by
  rcases h with h | ⟨rfl, h⟩
  · unfold ahead at h ⊢
    rw [List.length_append, List.length_append, List.length_singleton, List.length_singleton]
    by_cases e : u.length = v.length
    · rw [if_neg (by omega)] at h ⊢
      rw [lex_snoc e]
      split
      · next q => rw [q, lex_irr] at h; cases h
      · exact h
    · rw [if_pos e, decide_eq_true_eq] at h
      rw [if_pos (by omega), decide_eq_true_eq]; omega
  · unfold ahead
    rw [if_neg (by simp), lex_snoc rfl, if_pos rfl]
    exact decide_eq_true h
theorem leq_snoc {u v : List Nat} {s : Nat} (h : leqW u v) : leqW (u ++ [s]) (v ++ [s]) := by
  rcases h with rfl | h
  · exact .inl rfl
  · exact .inr (ahead_snoc (.inl h))
section
variable {K : Type}
theorem inc_get {l : List (Pth K)} (h : Inc l) {i j : Nat} {p q : Pth K} (hi : l[i]? = some p) (hj : l[j]? = some q) (hij : i ≤ j) : leqW p.2 q.2 := by
  by_cases e : i = j
  · subst e; rw [hi] at hj; injection hj with hj; rw [hj]; exact .inl rfl
  · obtain ⟨h1, h2⟩ := List.getElem?_eq_some_iff.1 hi
    obtain ⟨h3, h4⟩ := List.getElem?_eq_some_iff.1 hj
    have := List.pairwise_iff_getElem.1 h i j h1 h3 (by omega)
    rw [h2, h4] at this
    exact .inr this
end
section
variable {K : Type} [DecidableEq K] {next : K → Nat → K} {size : Nat} {start : K} {U : List K} {good : K → Bool}
structure Sk (next : K → Nat → K) (size : Nat) (start : K) (U : List K) (l : List (Pth K)) (i s : Nat) : Prop where
  nodup : (l.map (·.1)).Nodup
  sub : ∀ p ∈ l, p.1 ∈ U
  lead : ∀ p ∈ l, Wrd size p.2 ∧ p.2.foldl next start = p.1
  inc : Inc l
  first : l[0]? = some (start, [])
  gen : ∀ q ∈ l, q.2 = [] ∨ ∃ (j t : Nat) (r : Pth K), (j < i ∨ (j = i ∧ t < s)) ∧ l[j]? = some r ∧ q.2 = r.2 ++ [t]
  cover : ∀ j p, l[j]? = some p → ∀ t, t < size → (j < i ∨ (j = i ∧ t < s)) → ∃ q ∈ l, q.1 = next p.1 t ∧ leqW q.2 (p.2 ++ [t])
theorem Sk.all {l : List (Pth K)} {i s : Nat} {p : Pth K} (h : Sk next size start U l i s) (hp : l[i]? = some p) : ∀ q ∈ l, ahead q.2 (p.2 ++ [s]) = true := fun q hq => by
  rcases h.gen q hq with e | ⟨j, t, r, hj, hr, e⟩
  · rw [e]; exact ahead_nil (by simp)
  · rw [e]
    have hle := inc_get h.inc hr hp (by omega)
    rcases hle with e2 | e2
    · by_cases q2 : j = i
      · exact ahead_snoc (.inr ⟨e2, by omega⟩)
      · -- two places with one word
        exfalso
        obtain ⟨h1, h2⟩ := List.getElem?_eq_some_iff.1 hr
        obtain ⟨h3, h4⟩ := List.getElem?_eq_some_iff.1 hp
        have h5 := List.pairwise_iff_getElem.1 h.inc j i h1 h3 (by omega)
        rw [h2, h4, e2] at h5
        have h6 := ahead_asymm h5
        rw [h5] at h6; cases h6
    · exact ahead_snoc (.inl e2)
theorem Sk.add {l : List (Pth K)} {i s : Nat} {p : Pth K} (h : Sk next size start U l i s) (hU : ∀ x ∈ U, ∀ s, s < size → next x s ∈ U) (hp : l[i]? = some p) (hs : s < size) : Sk next size start U (addW l (next p.1 s) (p.2 ++ [s])) i (s + 1) := by
  have hall := h.all hp
  have hpm : p ∈ l := List.mem_of_getElem? hp
  have hi := (List.getElem?_eq_some_iff.1 hp).1
  unfold addW
  split
  · next hm =>
    obtain ⟨q, hq, e⟩ := List.mem_map.1 hm
    refine ⟨h.nodup, h.sub, h.lead, h.inc, h.first, fun q hq => ?_, fun j r hr t ht hj => ?_⟩
    · rcases h.gen q hq with g | ⟨j, t, r, g1, g2, g3⟩
      · exact .inl g
      · exact .inr ⟨j, t, r, by omega, g2, g3⟩
    · by_cases hc : j = i ∧ t = s
      · obtain ⟨rfl, rfl⟩ := hc
        rw [hp] at hr; injection hr with hr; subst hr
        exact ⟨q, hq, e, .inr (hall q hq)⟩
      · exact h.cover j r hr t ht (by omega)
  · next hm =>
    have old : ∀ {j : Nat} {r : Pth K}, l[j]? = some r → (l ++ [(next p.1 s, p.2 ++ [s])])[j]? = some r := fun {j r} hr => by
      rw [List.getElem?_append_left (List.getElem?_eq_some_iff.1 hr).1]; exact hr
    have new : ∀ {j : Nat} {r : Pth K}, j ≤ i → (l ++ [(next p.1 s, p.2 ++ [s])])[j]? = some r → l[j]? = some r := fun {j r} hj hr => by
      rw [List.getElem?_append_left (by omega)] at hr; exact hr
    refine ⟨?_, fun q hq => ?_, fun q hq => ?_, ?_, old h.first, fun q hq => ?_, fun j r hr t ht hj => ?_⟩
    · rw [List.map_append]
      exact List.nodup_append.2 ⟨h.nodup, by simp, fun a ha b hb => by
        have e : b = next p.1 s := List.mem_singleton.1 hb
        rw [e]; exact fun q => hm (q ▸ ha)⟩
    · rcases List.mem_append.1 hq with hq | hq
      · exact h.sub q hq
      · rw [List.mem_singleton.1 hq]; exact hU _ (h.sub p hpm) s hs
    · rcases List.mem_append.1 hq with hq | hq
      · exact h.lead q hq
      · rw [List.mem_singleton.1 hq]
        obtain ⟨g1, g2⟩ := h.lead p hpm
        refine ⟨fun t ht => ?_, ?_⟩
        · rcases List.mem_append.1 ht with ht | ht
          · exact g1 t ht
          · rw [List.mem_singleton.1 ht]; exact hs
        · show (p.2 ++ [s]).foldl next start = next p.1 s
          rw [List.foldl_append, g2]; rfl
    · exact List.pairwise_append.2 ⟨h.inc, List.pairwise_singleton _ _, fun a ha b hb => by rw [List.mem_singleton.1 hb]; exact hall a ha⟩
    · rcases List.mem_append.1 hq with hq | hq
      · rcases h.gen q hq with g | ⟨j, t, r, g1, g2, g3⟩
        · exact .inl g
        · exact .inr ⟨j, t, r, by omega, old g2, g3⟩
      · rw [List.mem_singleton.1 hq]
        exact .inr ⟨i, s, p, .inr ⟨rfl, Nat.lt_succ_self s⟩, old hp, rfl⟩
    · have hr' := new (by omega) hr
      by_cases hc : j = i ∧ t = s
      · obtain ⟨rfl, rfl⟩ := hc
        rw [hp] at hr'; injection hr' with hr'; subst hr'
        exact ⟨_, List.mem_append_right _ (List.mem_singleton.2 rfl), rfl, .inl rfl⟩
      · obtain ⟨q, g1, g2, g3⟩ := h.cover j r hr' t ht (by omega)
        exact ⟨q, List.mem_append_left _ g1, g2, g3⟩
theorem addW_pre (l : List (Pth K)) (k : K) (w : List Nat) : l <+: addW l k w := by
  unfold addW; split
  · exact List.prefix_refl _
  · exact List.prefix_append _ _
theorem Sk.grow {l : List (Pth K)} {i : Nat} {p : Pth K} (h : Sk next size start U l i 0) (hU : ∀ x ∈ U, ∀ s, s < size → next x s ∈ U) (hp : l[i]? = some p) : ∀ s, s ≤ size → Sk next size start U (growW next p l s) i s ∧ l <+: growW next p l s
  | 0, _ => ⟨h, List.prefix_refl _⟩
  | s + 1, hs => by
    obtain ⟨h1, h2⟩ := Sk.grow h hU hp s (by omega)
    have hp' : (growW next p l s)[i]? = some p := by
      obtain ⟨r, e⟩ := h2
      rw [← e, List.getElem?_append_left (List.getElem?_eq_some_iff.1 hp).1]; exact hp
    exact ⟨h1.add hU hp' (by omega), h2.trans (addW_pre _ _ _)⟩
omit [DecidableEq K] in
theorem Sk.done {l : List (Pth K)} {i : Nat} (h : Sk next size start U l i size) : Sk next size start U l (i + 1) 0 :=
  ⟨h.nodup, h.sub, h.lead, h.inc, h.first, fun q hq => by
    rcases h.gen q hq with g | ⟨j, t, r, g1, g2, g3⟩
    · exact .inl g
    · exact .inr ⟨j, t, r, by omega, g2, g3⟩, fun j p hp t ht hj => h.cover j p hp t ht (by omega)⟩
theorem Sk.reach {l : List (Pth K)} {i : Nat} (h : Sk next size start U l i 0) {p : Pth K} (hp : l[i]? = some p ∨ l.length ≤ i) : ∀ (n : Nat) (v : List Nat), v.length = n → Wrd size v → (∃ q ∈ l, q.1 = v.foldl next start ∧ leqW q.2 v) ∨ (l[i]? = some p ∧ ahead p.2 v = true)
  | 0, v, hn, _ => by
    rw [List.eq_nil_of_length_eq_zero hn]
    exact .inl ⟨_, List.mem_of_getElem? h.first, rfl, .inl rfl⟩
  | n + 1, v, hn, hw => by
    obtain ⟨u, s, rfl⟩ : ∃ u s, v = u ++ [s] := ⟨v.dropLast, v.getLast (by intro e; rw [e] at hn; cases hn), (List.dropLast_concat_getLast _).symm⟩
    have hu : u.length = n := by simpa using hn
    have hwu : Wrd size u := fun t ht => hw t (List.mem_append_left _ ht)
    have hs : s < size := hw s (List.mem_append_right _ (List.mem_singleton.2 rfl))
    have hfin : ∀ q : Pth K, leqW q.2 u → ∀ r : Pth K, leqW r.2 (q.2 ++ [s]) → leqW r.2 (u ++ [s]) := fun q h1 r h2 => h2.trans (leq_snoc h1)
    rcases Sk.reach h hp n u hu hwu with ⟨q, g1, g2, g3⟩ | ⟨g1, g2⟩
    · obtain ⟨j, hj, e⟩ := List.getElem_of_mem g1
      have hq : l[j]? = some q := by rw [List.getElem?_eq_getElem hj, e]
      by_cases hji : j < i
      · obtain ⟨r, f1, f2, f3⟩ := h.cover j q hq s hs (.inl hji)
        refine .inl ⟨r, f1, ?_, hfin q g3 r f3⟩
        rw [f2, g2, List.foldl_append]; rfl
      · rcases hp with hp | hp
        · refine .inr ⟨hp, ?_⟩
          have h1 := (inc_get h.inc hp hq (by omega)).trans g3
          rcases h1 with e1 | e1
          · rw [e1]; exact ahead_more u s
          · exact ahead_trans e1 (ahead_more u s)
        · omega
    · exact .inr ⟨g1, ahead_trans g2 (ahead_more u s)⟩
def GoodW (next : K → Nat → K) (size : Nat) (start : K) (good : K → Bool) (w : List Nat) : Prop := Wrd size w ∧ good (w.foldl next start) = true
theorem seek_ok (hU : ∀ x ∈ U, ∀ s, s < size → next x s ∈ U) : ∀ (f i : Nat) (l : List (Pth K)), Sk next size start U l i 0 → (∀ j p, j < i → l[j]? = some p → good p.1 = false) → i ≤ l.length → U.length < f + i →
    match seekW next size good f i l with
    | some w => IsLeast (GoodW next size start good) w
    | none => ∀ w, ¬ GoodW next size start good w
  | 0, i, l, h, hg, hi, hf => by
    have := nodup_len h.nodup (U := U) fun x hx => by
      obtain ⟨p, hp, rfl⟩ := List.mem_map.1 hx
      exact h.sub p hp
    rw [List.length_map] at this
    omega
  | f + 1, i, l, h, hg, hi, hf => by
    cases hx : l[i]? with
    | none =>
      rw [show seekW next size good (f + 1) i l = none by rw [seekW, hx]]
      intro w hw
      have hlen := List.getElem?_eq_none_iff.1 hx
      rcases h.reach (p := (start, [])) (.inr hlen) _ w rfl hw.1 with ⟨q, g1, g2, _⟩ | ⟨g1, _⟩
      · obtain ⟨j, hj, e⟩ := List.getElem_of_mem g1
        have := hg j q (by omega) (by rw [List.getElem?_eq_getElem hj, e])
        rw [g2, hw.2] at this; cases this
      · rw [hx] at g1; cases g1
    | some p =>
      by_cases hgood : good p.1 = true
      · rw [show seekW next size good (f + 1) i l = some p.2 by rw [seekW, hx]; exact if_pos hgood]
        obtain ⟨g1, g2⟩ := h.lead p (List.mem_of_getElem? hx)
        refine ⟨⟨g1, by rw [g2]; exact hgood⟩, fun v hv => ?_⟩
        rcases h.reach (.inl hx) _ v rfl hv.1 with ⟨q, f1, f2, f3⟩ | ⟨_, f2⟩
        · obtain ⟨j, hj, e⟩ := List.getElem_of_mem f1
          have hq : l[j]? = some q := by rw [List.getElem?_eq_getElem hj, e]
          have hji : i ≤ j := Nat.le_of_not_lt fun hlt => by
            have := hg j q hlt hq
            rw [f2, hv.2] at this; cases this
          exact ((inc_get h.inc hx hq hji).trans f3).not
        · exact ahead_asymm f2
      · rw [show seekW next size good (f + 1) i l = seekW next size good f (i + 1) (growW next p l size) by rw [seekW, hx]; exact if_neg hgood]
        obtain ⟨h1, h2⟩ := h.grow hU hx size (Nat.le_refl _)
        have hlen := h2.length_le
        have hil := (List.getElem?_eq_some_iff.1 hx).1
        refine seek_ok hU f (i + 1) _ h1.done (fun j q hj hq => ?_) (by omega) (by omega)
        have hq' : l[j]? = some q := by
          obtain ⟨r, e⟩ := h2
          rw [← e, List.getElem?_append_left (by omega)] at hq; exact hq
        by_cases e : j = i
        · subst e
          rw [hx] at hq'; injection hq' with hq'; subst hq'
          simpa using hgood
        · exact hg j q (by omega) hq'
theorem seek_all (hU : ∀ x ∈ U, ∀ s, s < size → next x s ∈ U) (h0 : start ∈ U) : match seekW next size good (U.length + 1) 0 [(start, [])] with
    | some w => IsLeast (GoodW next size start good) w
    | none => ∀ w, ¬ GoodW next size start good w :=
  seek_ok hU _ 0 _ ⟨by simp, fun p hp => by rw [List.mem_singleton.1 hp]; exact h0, fun p hp => by rw [List.mem_singleton.1 hp]; exact ⟨fun s hs => absurd hs (List.not_mem_nil), rfl⟩, List.pairwise_singleton _ _, rfl, fun q hq => by rw [List.mem_singleton.1 hq]; exact .inl rfl, fun j p hp t ht hj => by omega⟩ (fun j p hj => absurd hj (Nat.not_lt_zero j)) (Nat.zero_le _) (by omega)
end
end Go.Wd

namespace Go.Wd
set_option linter.unusedVariables false
/-! ### the complement -/
def flipD (d : Dfa) : Dfa := ⟨d.size, d.next, d.fin.map fun b => !b⟩
def notP (d : Dfa) : Dfa := minP (flipD d)
section
variable {d e : Dfa}
theorem flip_ok (h : okD d) : okD (flipD d) := ⟨⟨h.1.1, h.1.2.1, by show (d.fin.map _).length = _; rw [List.length_map]; exact h.1.2.2⟩, h.2⟩
theorem flip_fn (h : okD d) {q : Nat} (hq : q < d.n) : (flipD d).fn q = !(d.fn q) := by
  have hl : q < d.fin.length := by
    have := h.1.2.2
    have hq' : q < d.next.length := hq
    omega
  show (d.fin.map fun b => !b).getD q default = !(d.fin.getD q default)
  rw [List.getD_eq_getElem?_getD, List.getElem?_map, List.getElem?_eq_getElem hl, List.getD_eq_getElem?_getD, List.getElem?_eq_getElem hl]; rfl
theorem flip_acc (h : okD d) {w : List Nat} (hw : Wrd d.k w) : (flipD d).acc 0 w = !(d.acc 0 w) := flip_fn h (h.run w 0 h.1.2.1.1 hw)
theorem min_acc (h : okD d) {w : List Nat} (hw : Wrd d.k w) : (minP d).acc 0 w = d.acc 0 w := (minP_lang h w hw).symm
theorem not_ok (h : okD d) : okD (notP d) ∧ (notP d).size = d.size ∧ (notP d).k = d.k := by
  obtain ⟨h1, h2⟩ := minP_size (flip_ok h)
  exact ⟨(minP_ok (flip_ok h)).1, h1, h2⟩
theorem not_acc (h : okD d) {w : List Nat} (hw : Wrd d.k w) : (notP d).acc 0 w = !(d.acc 0 w) := by
  have := min_acc (flip_ok h) (w := w) hw
  rw [show notP d = minP (flipD d) from rfl, this, flip_acc h hw]
theorem min_eq (hd : okD d) (he : okD e) (hs : d.size = e.size) (h : ∀ w, Wrd d.k w → d.acc 0 w = e.acc 0 w) : minP d = minP e := minP_canon hd he hs h
theorem not_not (h : okD d) : notP (notP d) = minP d :=
  min_eq (flip_ok (not_ok h).1) h (not_ok h).2.1 fun w hw => by
    have hw' : Wrd d.k w := by rw [← (not_ok h).2.2]; exact hw
    rw [flip_acc (not_ok h).1 (by rw [(not_ok h).2.2]; exact hw'), not_acc h hw', Bool.not_not]
end
/-! ### joins -/
def pnext (a b : Dfa) (x : Nat × Nat) (s : Nat) : Nat × Nat := (a.stp x.1 s, b.stp x.2 s)
def pfin (f : Bool → Bool → Bool) (a b : Dfa) (x : Nat × Nat) : Bool := f (a.fn x.1) (b.fn x.2)
def pairs (n m : Nat) : List (Nat × Nat) := (List.range n).flatMap fun i => (List.range m).map fun j => (i, j)
def prodP (f : Bool → Bool → Bool) (a b : Dfa) : Dfa := mkD (pnext a b) a.k (pfin f a b) (reach (pnext a b) a.k (a.n * b.n) (0, 0))
def joinP (f : Bool → Bool → Bool) (a b : Dfa) : Dfa := minP (prodP f a b)
theorem pairs_mem {n m i j : Nat} : (i, j) ∈ pairs n m ↔ i < n ∧ j < m := by
  unfold pairs
  rw [List.mem_flatMap]
  constructor
  · rintro ⟨x, hx, h⟩
    obtain ⟨y, hy, e⟩ := List.mem_map.1 h
    injection e with e1 e2
    subst e1; subst e2
    exact ⟨List.mem_range.1 hx, List.mem_range.1 hy⟩
  · exact fun ⟨h1, h2⟩ => ⟨i, List.mem_range.2 h1, List.mem_map.2 ⟨j, List.mem_range.2 h2, rfl⟩⟩
theorem pairs_len (n m : Nat) : (pairs n m).length = n * m := by
  unfold pairs
  rw [List.length_flatMap]
  simp only [List.length_map, List.length_range]
  induction n with
  | zero => simp
  | succ n ih => rw [List.range_succ, List.map_append, List.sum_append, ih]; simp [Nat.succ_mul]
section
variable {a b : Dfa} {f : Bool → Bool → Bool}
theorem pnext_mem (ha : okD a) (hb : okD b) (hk : a.k = b.k) : ∀ x ∈ pairs a.n b.n, ∀ s, s < a.k → pnext a b x s ∈ pairs a.n b.n := fun ⟨i, j⟩ hx s hs => by
  obtain ⟨h1, h2⟩ := pairs_mem.1 hx
  exact pairs_mem.2 ⟨ha.stp h1 hs, hb.stp h2 (by omega)⟩
theorem prod_met (ha : okD a) (hb : okD b) (hk : a.k = b.k) : Met (pnext a b) a.k (pairs a.n b.n) (reach (pnext a b) a.k (a.n * b.n) (0, 0)) (reach (pnext a b) a.k (a.n * b.n) (0, 0)).length ∧ [(0, 0)] <+: reach (pnext a b) a.k (a.n * b.n) (0, 0) := by
  have h := reach_met (pnext_mem ha hb hk) (start := (0, 0)) (pairs_mem.2 ⟨ha.1.2.1.1, hb.1.2.1.1⟩)
  rw [pairs_len] at h; exact h
theorem prod_run (w : List Nat) : ∀ x : Nat × Nat, w.foldl (pnext a b) x = (a.run x.1 w, b.run x.2 w) := by
  induction w with
  | nil => exact fun x => rfl
  | cons s w ih => exact fun x => ih (pnext a b x s)
theorem prod_ok (ha : okD a) (hb : okD b) (hk : a.k = b.k) (hn : a.n * b.n ≤ 2048) : okD (prodP f a b) ∧ (prodP f a b).size = a.size ∧ (prodP f a b).k = a.k := by
  obtain ⟨h1, h2⟩ := prod_met ha hb hk
  have h5 := kk ha
  refine ⟨mk_ok h1 (by have := h2.length_le; simpa using this) (by rw [pairs_len]; exact hn) h5.2, h5.1, ?_⟩
  show ((a.k : Int)).toNat = a.k
  omega
theorem prod_acc (ha : okD a) (hb : okD b) (hk : a.k = b.k) {w : List Nat} (hw : Wrd a.k w) : (prodP f a b).acc 0 w = f (a.acc 0 w) (b.acc 0 w) := by
  obtain ⟨h1, h2⟩ := prod_met ha hb hk
  have h0 : (reach (pnext a b) a.k (a.n * b.n) (0, 0))[0]? = some (0, 0) := by
    obtain ⟨r, e⟩ := h2
    rw [← e]; rfl
  have e := mk_acc (final := pfin f a b) h1 w 0 _ h0 hw
  rw [show prodP f a b = mkD (pnext a b) a.k (pfin f a b) _ from rfl, e, prod_run]; rfl
end
/-! ### reversals -/
def snext (m : Dfa) (x : List Bool) (s : Nat) : List Bool := (List.range m.n).map fun k => x.getD (m.stp k s) false
def sfin (x : List Bool) : Bool := x.getD 0 false
def bools : Nat → List (List Bool)
  | 0 => [[]]
  | n + 1 => (bools n).flatMap fun x => [false :: x, true :: x]
def subD (m : Dfa) : Dfa := mkD (snext m) m.k sfin (reach (snext m) m.k (2 ^ m.n) m.fin)
def revP (d : Dfa) : Dfa := minP (subD (minP d))
section
variable {m d : Dfa}
end
end Go.Wd

