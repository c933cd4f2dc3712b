/-
  Plain functions: counts, words and generated automata step by step.
-/
import Derived.Test.YtjimlkpfmbachaaGreatJ18
import Derived.Test.YtjimlkpfmbachaaGreatJ14
set_option linter.unusedVariables false
set_option linter.unusedSectionVars false
set_option linter.unusedSimpArgs false
namespace Go.Wd
set_option linter.unusedVariables false
abbrev M64 : Int := 18446744073709551616
def addAt (u : List Int) (q : Nat) (z : Int) : List Int := u.set q ((u.getD q 0 + z) % M64)
def cRow (d : Dfa) (z : Int) (i : Nat) (u : List Int) : Nat → List Int
  | 0 => u
  | s + 1 => addAt (cRow d z i u s) (d.stp i s) z
def cStepN (d : Dfa) (v : List Int) : Nat → List Int
  | 0 => List.replicate d.n 0
  | i + 1 => cRow d (v.getD i 0) i (cStepN d v i) d.k
def cVec (d : Dfa) : Nat → List Int
  | 0 => (List.replicate d.n 0).set 0 1
  | t + 1 => cStepN d (cVec d t) d.n
def cSum (d : Dfa) (v : List Int) : Nat → Int
  | 0 => 0
  | i + 1 => if d.fn i = true then (cSum d v i + v.getD i 0) % M64 else cSum d v i
def countP (d : Dfa) (t : Nat) : Int := cSum d (cVec d t) d.n
def wrds (k : Nat) : Nat → List (List Nat)
  | 0 => [[]]
  | t + 1 => (wrds k t).flatMap fun w => (List.range k).map fun s => w ++ [s]
def howMany (k t : Nat) (P : List Nat → Bool) : Nat := ((wrds k t).filter P).length
section
variable {d : Dfa}
theorem addAt_len (u : List Int) (q : Nat) (z : Int) : (addAt u q z).length = u.length := by unfold addAt; simp
theorem cRow_len (z : Int) (i : Nat) (u : List Int) : ∀ s, (cRow d z i u s).length = u.length
  | 0 => rfl
  | s + 1 => by rw [cRow, addAt_len, cRow_len z i u s]
theorem cStepN_len (v : List Int) : ∀ i, (cStepN d v i).length = d.n
  | 0 => by rw [cStepN]; simp
  | i + 1 => by rw [cStepN, cRow_len, cStepN_len v i]
theorem cVec_len : ∀ t, (cVec d t).length = d.n
  | 0 => by rw [cVec]; simp
  | t + 1 => by rw [cVec, cStepN_len]
def hits (d : Dfa) (i q : Nat) : Nat → Nat
  | 0 => 0
  | s + 1 => hits d i q s + if d.stp i s = q then 1 else 0
def sumTo (f : Nat → Nat) : Nat → Nat
  | 0 => 0
  | i + 1 => sumTo f i + f i
def Cn (d : Dfa) (t q : Nat) : Nat := howMany d.k t fun w => decide (d.run 0 w = q)
end
end Go.Wd

namespace Go.Wd
set_option linter.unusedVariables false
def leastP (d : Dfa) : Option (List Nat) := seekW d.stp d.k d.fn (d.n + 1) 0 [(0, [])]
def dgood (a b : Dfa) (x : Nat × Nat) : Bool := !(a.fn x.1 == b.fn x.2)
def diffP (a b : Dfa) : Option (List Nat) := seekW (pnext a b) a.k (dgood a b) (a.n * b.n + 1) 0 [((0, 0), [])]
def First (P : List Nat → Prop) (o : Option (List Nat)) : Prop := match o with
  | some w => IsLeast P w
  | none => ∀ w, ¬ P w
theorem first_unique {P Q : List Nat → Prop} (hPQ : ∀ w, P w ↔ Q w) {o r : Option (List Nat)} (ho : First P o) (hr : First Q r) : o = r := by
  have e : P = Q := funext fun w => propext (hPQ w)
  subst e
  cases o with
  | none =>
    cases r with
    | none => rfl
    | some w => exact absurd hr.1 (ho w)
  | some v =>
    cases r with
    | none => exact absurd ho.1 (hr v)
    | some w => rw [least_unique ho hr]
section
variable {a b d : Dfa}
theorem least_first (h : okD d) : First (fun w => Wrd d.k w ∧ d.acc 0 w = true) (leastP d) := by
  have hs := seek_all (next := d.stp) (size := d.k) (start := 0) (U := List.range d.n) (good := d.fn) (fun x hx s hs => List.mem_range.2 (h.stp (List.mem_range.1 hx) hs)) (List.mem_range.2 h.1.2.1.1)
  rw [List.length_range] at hs
  exact hs
theorem diff_first (ha : okD a) (hb : okD b) (hk : a.k = b.k) : First (fun w => Wrd a.k w ∧ a.acc 0 w ≠ b.acc 0 w) (diffP a b) := by
  have hs := seek_all (next := pnext a b) (size := a.k) (start := (0, 0)) (U := pairs a.n b.n) (good := dgood a b) (pnext_mem ha hb hk) (pairs_mem.2 ⟨ha.1.2.1.1, hb.1.2.1.1⟩)
  rw [pairs_len] at hs
  have e : GoodW (pnext a b) a.k (0, 0) (dgood a b) = fun w => Wrd a.k w ∧ a.acc 0 w ≠ b.acc 0 w := by
    funext w
    unfold GoodW dgood
    rw [prod_run]
    refine propext ⟨fun q => ⟨q.1, fun e => ?_⟩, fun q => ⟨q.1, ?_⟩⟩
    · have h2 := q.2
      have e' : a.fn (a.run 0 w) = b.fn (b.run 0 w) := e
      simp [e'] at h2
    · have h2 : ¬ a.fn (a.run 0 w) = b.fn (b.run 0 w) := q.2
      simp [h2]
  rw [e] at hs
  exact hs
def pickW (o r : Option (List Nat)) : Option (List Nat) := match o, r with
  | some v, some w => if ahead v w = true then some v else some w
  | some v, none => some v
  | none, r => r
theorem pick_first {P Q : List Nat → Prop} {o r : Option (List Nat)} (ho : First P o) (hr : First Q r) : First (fun w => P w ∨ Q w) (pickW o r) := by
  cases o with
  | none =>
    cases r with
    | none => exact fun w h => h.elim (ho w) (hr w)
    | some w => exact ⟨.inr hr.1, fun v hv => hv.elim (fun h => absurd h (ho v)) (hr.2 v)⟩
  | some v =>
    cases r with
    | none => exact ⟨.inl ho.1, fun u hu => hu.elim (ho.2 u) fun h => absurd h (hr u)⟩
    | some w =>
      show First _ (if ahead v w = true then some v else some w)
      split
      · next h =>
        refine ⟨.inl ho.1, fun u hu => hu.elim (ho.2 u) fun hq => ?_⟩
        cases hc : ahead u v with
        | false => rfl
        | true =>
          have := hr.2 u hq
          rw [ahead_trans hc h] at this; cases this
      · next h =>
        refine ⟨.inr hr.1, fun u hu => hu.elim (fun hp => ?_) (hr.2 u)⟩
        cases hc : ahead u w with
        | false => rfl
        | true =>
          -- then u is no later than w, and v is no later than u
          exfalso
          have h1 := ho.2 u hp
          by_cases e : v = w
          · rw [e, hc] at h1; cases h1
          · rcases ahead_tot e with q | q
            · exact h q
            · have := ho.2 u hp
              rw [ahead_trans hc q] at this; cases this
def rdiffP (a b : Dfa) : Option (List Nat) := pickW (leastP (prodP (fun x y => x && y) a (notP b))) (leastP (prodP (fun x y => x && y) (notP a) b))
theorem rdiff_eq (ha : okD a) (hb : okD b) (hs : a.size = b.size) (hn : a.n * b.n ≤ 2048) : rdiffP a b = diffP a b := by
  have hk : a.k = b.k := by unfold Dfa.k; rw [hs]
  obtain ⟨ga, ga2, ga3⟩ := not_ok ha
  obtain ⟨gb, gb2, gb3⟩ := not_ok hb
  have na : (notP a).n ≤ a.n := (minP_ok (flip_ok ha)).2
  have nb : (notP b).n ≤ b.n := (minP_ok (flip_ok hb)).2
  have m1 : a.n * (notP b).n ≤ 2048 := Nat.le_trans (Nat.mul_le_mul_left _ nb) hn
  have m2 : (notP a).n * b.n ≤ 2048 := Nat.le_trans (Nat.mul_le_mul_right _ na) hn
  have kx : a.k = (notP b).k := by omega
  have ky : (notP a).k = b.k := by omega
  obtain ⟨x1, x2, x3⟩ := prod_ok (f := fun x y => x && y) ha gb kx m1
  obtain ⟨y1, y2, y3⟩ := prod_ok (f := fun x y => x && y) ga hb ky m2
  refine first_unique (fun w => ?_) (pick_first (least_first x1) (least_first y1)) (diff_first ha hb hk)
  have hx : ∀ {w}, Wrd a.k w → (prodP (fun x y => x && y) a (notP b)).acc 0 w = (a.acc 0 w && !(b.acc 0 w)) := fun {w} hw => by
    rw [prod_acc ha gb kx hw, not_acc hb (by rw [← hk]; exact hw)]
  have hy : ∀ {w}, Wrd a.k w → (prodP (fun x y => x && y) (notP a) b).acc 0 w = (!(a.acc 0 w) && b.acc 0 w) := fun {w} hw => by
    rw [prod_acc ga hb ky (by rw [ga3]; exact hw), not_acc ha hw]
  rw [x3, y3, ga3]
  constructor
  · rintro (⟨h1, h2⟩ | ⟨h1, h2⟩)
    · rw [hx h1] at h2
      refine ⟨h1, fun e => ?_⟩
      rw [e] at h2; cases hb2 : b.acc 0 w <;> rw [hb2] at h2 <;> cases h2
    · rw [hy h1] at h2
      refine ⟨h1, fun e => ?_⟩
      rw [e] at h2; cases hb2 : b.acc 0 w <;> rw [hb2] at h2 <;> cases h2
  · rintro ⟨h1, h2⟩
    rw [hx h1, hy h1]
    cases ha2 : a.acc 0 w <;> cases hb2 : b.acc 0 w <;> rw [ha2, hb2] at h2
    · exact absurd rfl h2
    · exact .inr ⟨h1, rfl⟩
    · exact .inl ⟨h1, rfl⟩
    · exact absurd rfl h2
end
end Go.Wd

namespace Go.Wd
set_option linter.unusedVariables false
open Go.Am
section
variable {K : Type}
abbrev Stp (K : Type) : Type := K × Int × Int
instance {K : Type} [Inhabited K] : Inhabited (Pth K) := ⟨(default, [])⟩
structure Tr [Inhabited K] (T : List (Stp K)) (P : List (Pth K)) : Prop where
  len : T.length = P.length
  key : ∀ j, j < P.length → (T.getD j default).1 = (P.getD j default).1
  way : ∀ j, j < P.length → ((T.getD j default).2.1 = -1 ∧ (P.getD j default).2 = []) ∨ ∃ f s : Nat, f < j ∧ (T.getD j default).2.1 = (f : Int) ∧ (T.getD j default).2.2 = (s : Int) ∧ (P.getD j default).2 = (P.getD f default).2 ++ [s]
theorem get_left {α : Type} [Inhabited α] {l : List α} {x : α} {j : Nat} (h : j < l.length) : (l ++ [x]).getD j default = l.getD j default := by
  rw [List.getD_eq_getElem?_getD, List.getElem?_append_left h, ← List.getD_eq_getElem?_getD]
theorem get_right {α : Type} [Inhabited α] {l : List α} {x : α} : (l ++ [x]).getD l.length default = x := by
  rw [List.getD_eq_getElem?_getD, List.getElem?_append_right (Nat.le_refl _), Nat.sub_self]; rfl
theorem Tr.start [Inhabited K] (k : K) : Tr [(k, -1, 0)] [(k, [])] := ⟨rfl, fun j hj => by
  have : j = 0 := by simpa using hj
  subst this; rfl, fun j hj => by
  have : j = 0 := by simpa using hj
  subst this; exact .inl ⟨rfl, rfl⟩⟩
theorem Tr.snoc [Inhabited K] {T : List (Stp K)} {P : List (Pth K)} (h : Tr T P) {k : K} {i s : Nat} (hi : i < P.length) : Tr (T ++ [(k, (i : Int), (s : Int))]) (P ++ [(k, (P.getD i default).2 ++ [s])]) := by
  have hl := h.len
  refine ⟨by rw [List.length_append, List.length_append, hl]; rfl, fun j hj => ?_, fun j hj => ?_⟩ <;> rw [List.length_append] at hj <;> simp only [List.length_cons, List.length_nil] at hj
  · by_cases q : j < P.length
    · rw [get_left (show j < T.length by omega), get_left q]; exact h.key j q
    · obtain rfl : j = P.length := by omega
      rw [get_right, ← hl, get_right]
  · by_cases q : j < P.length
    · rw [get_left (show j < T.length by omega), get_left q]
      rcases h.way j q with q2 | ⟨f, t, q1, q2, q3, q4⟩
      · exact .inl q2
      · exact .inr ⟨f, t, q1, q2, q3, by rw [get_left (show f < P.length by omega)]; exact q4⟩
    · obtain rfl : j = P.length := by omega
      refine .inr ⟨i, s, hi, ?_, ?_, ?_⟩
      · rw [← hl, get_right]
      · rw [← hl, get_right]
      · rw [get_right, get_left hi]
end
section
variable {K : Type} [DecidableEq K] [Inhabited K]
structure Sr (next : K → Nat → K) (size : Nat) (start : K) (U : List K) (good : K → Bool) (N : Nat) (T : List (Stp K)) (P : List (Pth K)) (i : Nat) : Prop where
  tr : Tr T P
  sk : Sk next size start U P i 0
  eq : seekW next size good (N + 1) 0 [(start, [])] = seekW next size good (N + 1 - i) i P
  le : i ≤ P.length
variable {next : K → Nat → K} {size : Nat} {start : K} {U : List K} {good : K → Bool} {N i : Nat} {T : List (Stp K)} {P : List (Pth K)}
omit [Inhabited K] in
theorem sk_len {s : Nat} (h : Sk next size start U P i s) : P.length ≤ U.length := by
  have := nodup_len h.nodup (U := U) fun x hx => by
    obtain ⟨p, hp, rfl⟩ := List.mem_map.1 hx
    exact h.sub p hp
  rwa [List.length_map] at this
theorem sr_start (h0 : start ∈ U) : Sr next size start U good N [(start, -1, 0)] [(start, [])] 0 :=
  ⟨Tr.start start, ⟨by simp, fun p hp => by rw [List.mem_singleton.1 hp]; exact h0, fun p hp => by rw [List.mem_singleton.1 hp]; exact ⟨fun s hs => absurd hs (List.not_mem_nil), rfl⟩, List.pairwise_singleton _ _, rfl, fun q hq => by rw [List.mem_singleton.1 hq]; exact .inl rfl, fun j p hp t ht hj => by omega⟩, rfl, Nat.zero_le _⟩
omit [DecidableEq K] in
theorem pth_get (hi : i < P.length) : P[i]? = some (P.getD i default) := by rw [List.getElem?_eq_getElem hi, el_get hi]
theorem Sr.hit (h : Sr next size start U good N T P i) (hN : U.length ≤ N) (hi : i < P.length) (hg : good (P.getD i default).1 = true) : seekW next size good (N + 1) 0 [(start, [])] = some (P.getD i default).2 := by
  have hl := sk_len h.sk
  rw [h.eq, show N + 1 - i = (N - i) + 1 by omega, seekW, pth_get hi]
  simp only []
  rw [if_pos hg]
theorem Sr.miss (h : Sr next size start U good N T P i) (hi : P.length ≤ i) : seekW next size good (N + 1) 0 [(start, [])] = none := by
  rw [h.eq]
  cases N + 1 - i with
  | zero => rfl
  | succ f => rw [seekW, List.getElem?_eq_none hi]
theorem Sr.step (h : Sr next size start U good N T P i) (hU : ∀ x ∈ U, ∀ s, s < size → next x s ∈ U) (hN : U.length ≤ N) (hi : i < P.length) (hg : good (P.getD i default).1 = false) {T' : List (Stp K)} (hT : Tr T' (growW next (P.getD i default) P size)) :
    Sr next size start U good N T' (growW next (P.getD i default) P size) (i + 1) := by
  have hl := sk_len h.sk
  obtain ⟨h1, h2⟩ := h.sk.grow hU (pth_get hi) size (Nat.le_refl _)
  refine ⟨hT, h1.done, ?_, by have := h2.length_le; omega⟩
  rw [h.eq, show N + 1 - i = (N + 1 - (i + 1)) + 1 by omega, seekW, pth_get hi]
  simp only []
  rw [if_neg (by rw [hg]; decide)]
theorem Sr.grow (h : Sr next size start U good N T P i) (hU : ∀ x ∈ U, ∀ s, s < size → next x s ∈ U) (hi : i < P.length) {s : Nat} (hs : s ≤ size) : (growW next (P.getD i default) P s).length ≤ U.length ∧ P <+: growW next (P.getD i default) P s := by
  obtain ⟨h1, h2⟩ := h.sk.grow hU (pth_get hi) s hs
  exact ⟨sk_len h1, h2⟩
omit [Inhabited K] in
theorem growW_old {p : Pth K} {l : List (Pth K)} {s : Nat} (h : next p.1 s ∈ (growW next p l s).map (·.1)) : growW next p l (s + 1) = growW next p l s := by rw [growW]; unfold addW; rw [if_pos h]
omit [Inhabited K] in
theorem growW_new {p : Pth K} {l : List (Pth K)} {s : Nat} (h : next p.1 s ∉ (growW next p l s).map (·.1)) : growW next p l (s + 1) = growW next p l s ++ [(next p.1 s, p.2 ++ [s])] := by rw [growW]; unfold addW; rw [if_neg h]
/-! what is seen -/
abbrev keysW (l : List (Pth K)) : List K := l.map (·.1)
abbrev ksW (kv : K → Value) (l : List (Pth K)) : List Value := (keysW l).map kv
abbrev vsW (n : Nat) : List AV := (List.replicate n true).map bool
variable {kv : K → Value}
omit [Inhabited K] in
theorem look_w (hk : ∀ a b, kv a = kv b → a = b) (l : List (Pth K)) (k : K) : mlook (bool false) (ksW kv l) (vsW l.length) (kv k) = bool (decide (k ∈ keysW l)) := by
  by_cases q : k ∈ keysW l
  · rw [decide_eq_true q]
    unfold mlook
    rw [kpos_map (g := kv) (fun b _ e => hk b k e), if_pos q]
    simp only []
    rw [List.getD_eq_getElem?_getD, List.getElem?_map, List.getElem?_replicate, if_pos (by have := List.idxOf_lt_length_of_mem q; rwa [List.length_map] at this)]; rfl
  · rw [decide_eq_false q, mlook_not (fun b _ e => hk b k e) q]
omit [Inhabited K] in
theorem put_kw (hk : ∀ a b, kv a = kv b → a = b) {l : List (Pth K)} {k : K} {w : List Nat} (q : k ∉ keysW l) : putK (ksW kv l) (kv k) = ksW kv (l ++ [(k, w)]) := by
  rw [ksW, putK_map (fun b _ e => hk b k e) q]
  simp [ksW, keysW]
omit [Inhabited K] in
theorem put_vw (hk : ∀ a b, kv a = kv b → a = b) {l : List (Pth K)} {k : K} {w : List Nat} (q : k ∉ keysW l) : putV (ksW kv l) (vsW l.length) (kv k) (bool true) = vsW (l ++ [(k, w)]).length := by
  rw [ksW, putV_map (fun b _ e => hk b k e) q, List.length_append]
  simp only [vsW, List.length_cons, List.length_nil]
  rw [List.replicate_succ' (n := l.length), List.map_append]; rfl
abbrev natL (w : List Nat) : List Int := w.map fun n : Nat => (n : Int)
theorem natL_snoc (w : List Nat) (s : Nat) : natL (w ++ [s]) = natL w ++ [(s : Int)] := by rw [natL, List.map_append]; rfl
theorem natL_nats (w : List Nat) : (natL w).map int = w.map natI := by rw [List.map_map]; rfl
abbrev resW (o : Option (List Nat)) : AV := nats (o.getD [])
end
abbrev stpN (t : Stp Nat) : AV := .agg [natI t.1, int t.2.1, int t.2.2]
abbrev stpP (t : Stp (Nat × Nat)) : AV := .agg [natI t.1.1, natI t.1.2, int t.2.1, int t.2.2]
end Go.Wd

namespace Go.Wd
set_option linter.unusedVariables false
open Go.Am
section
variable {d : Dfa}
def notZ (d : Dfa) : Dfa := if validD d = true then notP d else zeroD
theorem notZ_t (h : validD d = true) : notZ d = minZ (flipD d) := by
  rw [minZ_t (ok_valid (flip_ok (valid_ok h)))]; exact if_pos h
theorem notZ_f (h : validD d = false) : notZ d = zeroD := if_neg (by rw [h]; decide)
def ng (l : List Bool) (i : Nat) : List Bool := (l.take i).map (fun b => !b) ++ l.drop i
theorem ng_zero (l : List Bool) : ng l 0 = l := by simp [ng]
theorem ng_all (l : List Bool) : ng l l.length = l.map fun b => !b := by simp [ng]
theorem ng_len (l : List Bool) (i : Nat) : (ng l i).length = l.length := by unfold ng; rw [List.length_append, List.length_map, List.length_take, List.length_drop]; omega
theorem ng_get {l : List Bool} {i : Nat} (h : i < l.length) : (ng l i).getD i default = l.getD i default := by
  unfold ng
  rw [List.getD_eq_getElem?_getD, List.getElem?_append_right (by rw [List.length_map, List.length_take]; omega), List.length_map, List.length_take, Nat.min_eq_left (by omega), Nat.sub_self, List.getElem?_drop, Nat.add_zero, ← List.getD_eq_getElem?_getD]
theorem ng_set {l : List Bool} {i : Nat} (h : i < l.length) : ((ng l i).map bool).set i (bool (!(ng l i).getD i default)) = (ng l (i + 1)).map bool := by
  rw [← List.map_set, ng_get h]
  congr 1
  unfold ng
  rw [List.set_append_right _ _ (by rw [List.length_map, List.length_take]; omega), List.length_map, List.length_take, Nat.min_eq_left (by omega), Nat.sub_self, List.drop_eq_getElem_cons h, List.set_cons_zero, List.take_add_one, List.getElem?_eq_getElem h, el_get h, List.map_append, List.append_assoc]
  rfl
theorem take_all {α : Type} {l : List α} {i : Nat} (h : l.length ≤ i) : l.take i = l := List.take_of_length_le h
theorem take_one {α : Type} [Inhabited α] {l : List α} {i : Nat} (h : i < l.length) : l.take (i + 1) = l.take i ++ [l.getD i default] := by
  rw [List.take_add_one, List.getElem?_eq_getElem h, el_get h]; rfl
/-! least words -/
def leastZ (d : Dfa) : Option (List Nat) := if validD d = true then leastP d else none
theorem leastZ_t (h : validD d = true) : leastZ d = leastP d := if_pos h
theorem leastZ_f (h : validD d = false) : leastZ d = none := if_neg (by rw [h]; decide)
theorem stpD_mem (hd : okD d) : ∀ x ∈ List.range d.n, ∀ s, s < d.k → d.stp x s ∈ List.range d.n := fun x hx s hs => List.mem_range.2 (hd.stp (List.mem_range.1 hx) hs)
/-! the reference's search -/
def mt (n : Nat) (l : List (Pth Nat)) : List Bool := (List.range n).map fun q => decide (q ∈ keysW l)
theorem mt_len (n : Nat) (l : List (Pth Nat)) : (mt n l).length = n := by unfold mt; simp
theorem mt_get {n : Nat} {l : List (Pth Nat)} {q : Nat} (h : q < n) : (mt n l).getD q default = decide (q ∈ keysW l) := by
  unfold mt; rw [List.getD_eq_getElem?_getD, List.getElem?_map, List.getElem?_range h]; rfl
theorem mt_el {n : Nat} {l : List (Pth Nat)} {i : Nat} (h : i < (mt n l).length) : (mt n l)[i] = decide (i ∈ keysW l) := by simp [mt]
theorem mt_nil (n : Nat) : mt n [] = List.replicate n false := List.ext_getElem (by simp [mt]) fun i h1 h2 => by simp [mt]
theorem mt_set {n : Nat} {l : List (Pth Nat)} {q : Nat} {w : List Nat} (h : q < n) : ((mt n l).map bool).set q (bool true) = (mt n (l ++ [(q, w)])).map bool := by
  rw [← List.map_set]
  congr 1
  refine List.ext_getElem (by rw [List.length_set, mt_len, mt_len]) fun i h1 h2 => ?_
  rw [List.getElem_set, mt_el, mt_el]
  by_cases e : q = i
  · subst e; rw [if_pos rfl]; exact (decide_eq_true (by simp)).symm
  · rw [if_neg e]
    refine decide_eq_decide.2 ?_
    simp only [keysW, List.map_append, List.map_cons, List.map_nil, List.mem_append, List.mem_singleton]
    exact ⟨.inl, fun q2 => q2.elim id fun e2 => absurd e2.symm e⟩
theorem rep_mapB (n : Nat) : List.replicate n (AV.sc (.bool false)) = (List.replicate n false).map bool := by rw [List.map_replicate]
theorem keys_new {n : Nat} {l : List (Pth Nat)} {q : Nat} (h : q < n) (hm : (mt n l).getD q default = false) : q ∉ keysW l := by
  rw [mt_get h] at hm; exact of_decide_eq_false hm
theorem keys_old {n : Nat} {l : List (Pth Nat)} {q : Nat} (h : q < n) (hm : (mt n l).getD q default = true) : q ∈ keysW l := by
  rw [mt_get h] at hm; exact of_decide_eq_true hm
end
end Go.Wd

namespace Go.Wd
set_option linter.unusedVariables false
open Go.Am Go.Wc
abbrev u64I (z : Int) : AV := .sc (.int .u64 z)
section
variable {d : Dfa}
theorem tr_len {K : Type} [Inhabited K] {T : List (Stp K)} {P : List (Pth K)} (h : Tr T P) : ∀ (n j : Nat), j ≤ n → j < P.length → (P.getD j default).2.length ≤ j := by
  intro n
  induction n with
  | zero =>
    intro j hj hl
    rcases h.way j hl with ⟨_, e⟩ | ⟨f, s, hf, _⟩
    · rw [e]; exact Nat.zero_le _
    · omega
  | succ n ih =>
    intro j hj hl
    rcases h.way j hl with ⟨_, e⟩ | ⟨f, s, hf, _, _, e⟩
    · rw [e]; exact Nat.zero_le _
    · have := ih f (by omega) (by omega)
      rw [e, List.length_append]; simp only [List.length_cons, List.length_nil]; omega
/-! counts -/
def countZ (d : Dfa) (n : Int) : Int := if validD d = true ∧ 0 ≤ n ∧ n ≤ 1024 then countP d n.toNat else 0
theorem countZ_f {n : Int} (h : ¬ (validD d = true ∧ 0 ≤ n ∧ n ≤ 1024)) : countZ d n = 0 := if_neg h
theorem countZ_v {n : Int} (h : validD d = false) : countZ d n = 0 := if_neg fun q => by rw [h] at q; cases q.1
theorem countZ_t {n : Int} (h : validD d = true) (h0 : 0 ≤ n) (h1 : n ≤ 1024) : countZ d n = countP d n.toNat := if_pos ⟨h, h0, h1⟩
theorem addAt_map (u : List Int) (q : Nat) (z : Int) : (addAt u q z).map u64I = (u.map u64I).set q (u64I ((u.getD q default + z) % M64)) := by unfold addAt; rw [List.map_set]; rfl
theorem rep_mapU (n : Nat) : List.replicate n (AV.sc (.int .u64 0)) = (List.replicate n (0 : Int)).map u64I := by rw [List.map_replicate]
theorem cVec_0 : ((List.replicate d.n (0 : Int)).map u64I).set 0 (u64I 1) = (cVec d 0).map u64I := by rw [cVec, List.map_set]
theorem cSum_t {v : List Int} {i : Nat} (h : d.fn i = true) : cSum d v (i + 1) = (cSum d v i + v.getD i default) % M64 := by rw [cSum, if_pos h]; rfl
theorem cSum_f {v : List Int} {i : Nat} (h : d.fn i = false) : cSum d v (i + 1) = cSum d v i := by rw [cSum, if_neg (by rw [h]; decide)]
/-! words -/
abbrev okW (d : Dfa) (w : List Int) : Prop := ∀ s ∈ w, 0 ≤ s ∧ s < d.size
def toN (w : List Int) : List Nat := w.map Int.toNat
def accI (d : Dfa) (w : List Int) : Bool := if validD d = true ∧ okW d w then d.acc 0 (toN w) else false
def endI (d : Dfa) (q : Nat) (w : List Int) : Int := if okW d w then (d.run q (toN w) : Int) else -1
theorem okW_bad {w : List Int} {i : Nat} (hi : i < w.length) (h : w.getD i default < 0 ∨ d.size ≤ w.getD i default) : ¬ okW d w := fun q => by have := q _ (el_mem hi); omega
theorem okW_all {w : List Int} (h : ∀ j, j < w.length → 0 ≤ w.getD j default ∧ w.getD j default < d.size) : okW d w := fun s hs => by
  obtain ⟨j, hj, rfl⟩ := List.getElem_of_mem hs
  have := h j hj
  rwa [el_get hj] at this
theorem run_step {q i : Nat} {w : List Int} (hi : i < w.length) : d.run q (toN (w.take (i + 1))) = d.stp (d.run q (toN (w.take i))) (w.getD i default).toNat := by
  rw [take_one hi]
  unfold toN Dfa.run
  rw [List.map_append, List.foldl_append]; rfl
theorem wrd_ok (hd : okD d) {w : List Int} (h : ∀ j, j < w.length → 0 ≤ w.getD j default ∧ w.getD j default < d.size) : Wrd d.k (toN w) := fun s hs => by
  obtain ⟨x, hx, rfl⟩ := List.mem_map.1 hs
  have := okW_all h x hx
  have := (kk hd).1
  omega
theorem run_lt (hd : okD d) {q i : Nat} {w : List Int} (hq : q < d.n) (hi : i ≤ w.length) (h : ∀ j, j < i → 0 ≤ w.getD j default ∧ w.getD j default < d.size) : d.run q (toN (w.take i)) < d.n := by
  refine hd.run _ _ hq (wrd_ok hd fun j hj => ?_)
  rw [List.length_take] at hj
  have := h j (by omega)
  rwa [List.getD_eq_getElem?_getD, List.getElem?_take, if_pos (by omega), ← List.getD_eq_getElem?_getD]
theorem accI_v {w : List Int} (h : validD d = false) : accI d w = false := if_neg fun q => by rw [h] at q; cases q.1
theorem accI_w {w : List Int} (h : ¬ okW d w) : accI d w = false := if_neg fun q => h q.2
theorem accI_t {w : List Int} (h : validD d = true) (hw : okW d w) : accI d w = d.acc 0 (toN w) := if_pos ⟨h, hw⟩
/-! generated automata -/
def gRow (l : List Int) (size : Int) (n : Int) (i : Nat) : List Int := (List.range size.toNat).map fun s : Nat => atL l (9 + size * (i : Int) + (s : Int)) n
def gFin (l : List Int) (i : Nat) : Bool := decide (atL l (2 + (i : Int)) 3 = 1)
def gN (l : List Int) : Int := 1 + atL l 1 7
def sizedP (l : List Int) (size : Int) : Dfa := ⟨size, (List.range (gN l).toNat).map (gRow l size (gN l)), (List.range (gN l).toNat).map (gFin l)⟩
def dfaP (l : List Int) : Dfa := sizedP l (1 + atL l 0 3)
theorem gN_lt (l : List Int) : 1 ≤ gN l ∧ gN l ≤ 7 := by have := atL_lt (l := l) (i := 1) (most := 7) (by omega); unfold gN; omega
theorem gRow_len (l : List Int) (size n : Int) (i : Nat) : (gRow l size n i).length = size.toNat := by unfold gRow; simp
theorem sized_ok {l : List Int} {size : Int} (h : 1 ≤ size ∧ size ≤ 64) : okD (sizedP l size) ∧ (sizedP l size).n ≤ 7 := by
  have hn := gN_lt l
  have hl : (sizedP l size).next.length = (gN l).toNat := by unfold sizedP; simp
  refine ⟨⟨⟨h, ⟨by rw [hl]; omega, by rw [hl]; omega⟩, by rw [hl]; unfold sizedP; simp⟩, fun r hr => ?_⟩, by show (sizedP l size).next.length ≤ 7; rw [hl]; omega⟩
  obtain ⟨i, _, rfl⟩ := List.mem_map.1 hr
  refine ⟨by rw [gRow_len]; show ((size.toNat : Nat) : Int) = size; omega, fun x hx => ?_⟩
  obtain ⟨s, _, rfl⟩ := List.mem_map.1 hx
  have := atL_lt (l := l) (i := 9 + size * (i : Int) + (s : Int)) (most := gN l) (by omega)
  rw [hl]; omega
theorem dfa_ok (l : List Int) : okD (dfaP l) ∧ (dfaP l).n ≤ 7 := sized_ok (by have := atL_lt (l := l) (i := 0) (most := 3) (by omega); omega)
theorem rep_get {α : Type} {n i : Nat} {x : α} (h : i < n) : (List.replicate n x)[i]? = some x := by rw [List.getElem?_replicate, if_pos h]
theorem range_one (n : Nat) {α : Type} (f : Nat → α) : (List.range (n + 1)).map f = (List.range n).map f ++ [f n] := by rw [List.range_succ, List.map_append]; rfl
end
end Go.Wd

