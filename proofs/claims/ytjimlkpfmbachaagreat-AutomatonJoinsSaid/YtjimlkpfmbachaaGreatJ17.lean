/-
  Plain functions: complements, least words, counts, words and generated automata step by step.
-/
import Derived.Test.YtjimlkpfmbachaaGreatJ16
import Derived.Test.YtjimlkpfmbachaaGreatJ15
import Derived.Test.YtjimlkpfmbachaaGreatJ6
import Derived.Shelf.SortM.Plain
import Derived.Shelf.SortM.SortNone
import Derived.Shelf.SlicesG.Reverse
import Derived.Test.YtjimlkpfmbachaaGreatRows
import Derived.Shelf.SlGeneric
import Derived.Ground.SlgnProg
set_option linter.unusedVariables false
set_option linter.unusedSectionVars false
set_option linter.unusedSimpArgs false
namespace Go.Wd
set_option linter.unusedVariables false
def leastP (d : Dfa) : Option (List Nat) := seekW d.stp d.k d.fn (d.n + 1) 0 [(0, [])]
def dgood (a b : Dfa) (x : Nat × Nat) : Bool := !(a.fn x.1 == b.fn x.2)
def diffP (a b : Dfa) : Option (List Nat) := seekW (pnext a b) a.k (dgood a b) (a.n * b.n + 1) 0 [((0, 0), [])]
def First (P : List Nat → Prop) (o : Option (List Nat)) : Prop := match o with
  | some w => IsLeast P w
  | none => ∀ w, ¬ P w
section
variable {a b d : Dfa}
def pickW (o r : Option (List Nat)) : Option (List Nat) := match o, r with
  | some v, some w => if ahead v w = true then some v else some w
  | some v, none => some v
  | none, r => r
def rdiffP (a b : Dfa) : Option (List Nat) := pickW (leastP (prodP (fun x y => x && y) a (notP b))) (leastP (prodP (fun x y => x && y) (notP a) b))
/-! ### De Morgan -/
theorem morgan1 (ha : okD a) (hb : okD b) (hs : a.size = b.size) (hn : a.n * b.n ≤ 2048) : notP (joinP (fun x y => x && y) a b) = joinP (fun x y => x || y) (notP a) (notP b) := by
  have hk : a.k = b.k := by unfold Dfa.k; rw [hs]
  obtain ⟨ga, ga2, ga3⟩ := not_ok ha
  obtain ⟨gb, gb2, gb3⟩ := not_ok hb
  have na : (notP a).n ≤ a.n := (minP_ok (flip_ok ha)).2
  have nb : (notP b).n ≤ b.n := (minP_ok (flip_ok hb)).2
  have m1 : (notP a).n * (notP b).n ≤ 2048 := Nat.le_trans (Nat.mul_le_mul na nb) hn
  have kx : (notP a).k = (notP b).k := by omega
  obtain ⟨j1, j2, j3⟩ := join_ok (f := fun x y => x && y) ha hb hk hn
  obtain ⟨p1, p2, p3⟩ := prod_ok (f := fun x y => x || y) ga gb kx m1
  refine min_eq (flip_ok j1) p1 (j2.trans (ga2.symm.trans p2.symm)) fun w hw => ?_
  have hw' : Wrd a.k w := by rw [← j3]; exact hw
  rw [flip_acc j1 (by rw [j3]; exact hw'), join_acc ha hb hk hn hw', prod_acc ga gb kx (by rw [ga3]; exact hw'), not_acc ha hw', not_acc hb (by rw [← hk]; exact hw')]
  cases a.acc 0 w <;> cases b.acc 0 w <;> rfl
end
end Go.Wd

namespace Go.Wd
set_option linter.unusedVariables false
open Go.Am
section
variable {K : Type}
abbrev Stp (K : Type) : Type := K × Int × Int
instance {K : Type} [Inhabited K] : Inhabited (Pth K) := ⟨(default, [])⟩
structure Tr [Inhabited K] (T : List (Stp K)) (P : List (Pth K)) : Prop where
  len : T.length = P.length
  key : ∀ j, j < P.length → (T.getD j default).1 = (P.getD j default).1
  way : ∀ j, j < P.length → ((T.getD j default).2.1 = -1 ∧ (P.getD j default).2 = []) ∨ ∃ f s : Nat, f < j ∧ (T.getD j default).2.1 = (f : Int) ∧ (T.getD j default).2.2 = (s : Int) ∧ (P.getD j default).2 = (P.getD f default).2 ++ [s]
theorem get_left {α : Type} [Inhabited α] {l : List α} {x : α} {j : Nat} (h : j < l.length) : (l ++ [x]).getD j default = l.getD j default := by
  rw [List.getD_eq_getElem?_getD, List.getElem?_append_left h, ← List.getD_eq_getElem?_getD]
theorem get_right {α : Type} [Inhabited α] {l : List α} {x : α} : (l ++ [x]).getD l.length default = x := by
  rw [List.getD_eq_getElem?_getD, List.getElem?_append_right (Nat.le_refl _), Nat.sub_self]; rfl
theorem Tr.start [Inhabited K] (k : K) : Tr [(k, -1, 0)] [(k, [])] := ⟨rfl, fun j hj => by
  have : j = 0 := by simpa using hj
  subst this; rfl, fun j hj => by
  have : j = 0 := by simpa using hj
  subst this; exact .inl ⟨rfl, rfl⟩⟩
theorem Tr.snoc [Inhabited K] {T : List (Stp K)} {P : List (Pth K)} (h : Tr T P) {k : K} {i s : Nat} (hi : i < P.length) : Tr (T ++ [(k, (i : Int), (s : Int))]) (P ++ [(k, (P.getD i default).2 ++ [s])]) := by
  have hl := h.len
  refine ⟨by rw [List.length_append, List.length_append, hl]; rfl, fun j hj => ?_, fun j hj => ?_⟩ <;> rw [List.length_append] at hj <;> simp only [List.length_cons, List.length_nil] at hj
  · by_cases q : j < P.length
    · rw [get_left (show j < T.length by omega), get_left q]; exact h.key j q
    · obtain rfl : j = P.length := by omega
      rw [get_right, ← hl, get_right]
  · by_cases q : j < P.length
    · rw [get_left (show j < T.length by omega), get_left q]
      rcases h.way j q with q2 | ⟨f, t, q1, q2, q3, q4⟩
      · exact .inl q2
      · exact .inr ⟨f, t, q1, q2, q3, by rw [get_left (show f < P.length by omega)]; exact q4⟩
    · obtain rfl : j = P.length := by omega
      refine .inr ⟨i, s, hi, ?_, ?_, ?_⟩
      · rw [← hl, get_right]
      · rw [← hl, get_right]
      · rw [get_right, get_left hi]
end
section
variable {K : Type} [DecidableEq K] [Inhabited K]
structure Sr (next : K → Nat → K) (size : Nat) (start : K) (U : List K) (good : K → Bool) (N : Nat) (T : List (Stp K)) (P : List (Pth K)) (i : Nat) : Prop where
  tr : Tr T P
  sk : Sk next size start U P i 0
  eq : seekW next size good (N + 1) 0 [(start, [])] = seekW next size good (N + 1 - i) i P
  le : i ≤ P.length
variable {next : K → Nat → K} {size : Nat} {start : K} {U : List K} {good : K → Bool} {N i : Nat} {T : List (Stp K)} {P : List (Pth K)}
omit [Inhabited K] in
theorem sk_len {s : Nat} (h : Sk next size start U P i s) : P.length ≤ U.length := by
  have := nodup_len h.nodup (U := U) fun x hx => by
    obtain ⟨p, hp, rfl⟩ := List.mem_map.1 hx
    exact h.sub p hp
  rwa [List.length_map] at this
theorem sr_start (h0 : start ∈ U) : Sr next size start U good N [(start, -1, 0)] [(start, [])] 0 :=
  ⟨Tr.start start, ⟨by simp, fun p hp => by rw [List.mem_singleton.1 hp]; exact h0, fun p hp => by rw [List.mem_singleton.1 hp]; exact ⟨fun s hs => absurd hs (List.not_mem_nil), rfl⟩, List.pairwise_singleton _ _, rfl, fun q hq => by rw [List.mem_singleton.1 hq]; exact .inl rfl, fun j p hp t ht hj => by omega⟩, rfl, Nat.zero_le _⟩
omit [DecidableEq K] in
theorem pth_get (hi : i < P.length) : P[i]? = some (P.getD i default) := by rw [List.getElem?_eq_getElem hi, el_get hi]
theorem Sr.hit (h : Sr next size start U good N T P i) (hN : U.length ≤ N) (hi : i < P.length) (hg : good (P.getD i default).1 = true) : seekW next size good (N + 1) 0 [(start, [])] = some (P.getD i default).2 := by
  have hl := sk_len h.sk
  rw [h.eq, show N + 1 - i = (N - i) + 1 by omega, seekW, pth_get hi]
  simp only []
  rw [if_pos hg]
theorem Sr.miss (h : Sr next size start U good N T P i) (hi : P.length ≤ i) : seekW next size good (N + 1) 0 [(start, [])] = none := by
  rw [h.eq]
  cases N + 1 - i with
  | zero => rfl
  | succ f => rw [seekW, List.getElem?_eq_none hi]
theorem Sr.step (h : Sr next size start U good N T P i) (hU : ∀ x ∈ U, ∀ s, s < size → next x s ∈ U) (hN : U.length ≤ N) (hi : i < P.length) (hg : good (P.getD i default).1 = false) {T' : List (Stp K)} (hT : Tr T' (growW next (P.getD i default) P size)) :
    Sr next size start U good N T' (growW next (P.getD i default) P size) (i + 1) := by
  have hl := sk_len h.sk
  obtain ⟨h1, h2⟩ := h.sk.grow hU (pth_get hi) size (Nat.le_refl _)
  refine ⟨hT, h1.done, ?_, by have := h2.length_le; omega⟩
  rw [h.eq, show N + 1 - i = (N + 1 - (i + 1)) + 1 by omega, seekW, pth_get hi]
  simp only []
  rw [if_neg (by rw [hg]; decide)]
theorem Sr.grow (h : Sr next size start U good N T P i) (hU : ∀ x ∈ U, ∀ s, s < size → next x s ∈ U) (hi : i < P.length) {s : Nat} (hs : s ≤ size) : (growW next (P.getD i default) P s).length ≤ U.length ∧ P <+: growW next (P.getD i default) P s := by
  obtain ⟨h1, h2⟩ := h.sk.grow hU (pth_get hi) s hs
  exact ⟨sk_len h1, h2⟩
omit [Inhabited K] in
theorem growW_old {p : Pth K} {l : List (Pth K)} {s : Nat} (h : next p.1 s ∈ (growW next p l s).map (·.1)) : growW next p l (s + 1) = growW next p l s := by rw [growW]; unfold addW; rw [if_pos h]
omit [Inhabited K] in
theorem growW_new {p : Pth K} {l : List (Pth K)} {s : Nat} (h : next p.1 s ∉ (growW next p l s).map (·.1)) : growW next p l (s + 1) = growW next p l s ++ [(next p.1 s, p.2 ++ [s])] := by rw [growW]; unfold addW; rw [if_neg h]
/-! what is seen -/
abbrev keysW (l : List (Pth K)) : List K := l.map (·.1)
abbrev ksW (kv : K → Value) (l : List (Pth K)) : List Value := (keysW l).map kv
abbrev vsW (n : Nat) : List AV := (List.replicate n true).map bool
variable {kv : K → Value}
omit [Inhabited K] in
theorem look_w (hk : ∀ a b, kv a = kv b → a = b) (l : List (Pth K)) (k : K) : mlook (bool false) (ksW kv l) (vsW l.length) (kv k) = bool (decide (k ∈ keysW l)) := by
  by_cases q : k ∈ keysW l
  · rw [decide_eq_true q]
    unfold mlook
    rw [kpos_map (g := kv) (fun b _ e => hk b k e), if_pos q]
    simp only []
    rw [List.getD_eq_getElem?_getD, List.getElem?_map, List.getElem?_replicate, if_pos (by have := List.idxOf_lt_length_of_mem q; rwa [List.length_map] at this)]; rfl
  · rw [decide_eq_false q, mlook_not (fun b _ e => hk b k e) q]
omit [Inhabited K] in
theorem put_kw (hk : ∀ a b, kv a = kv b → a = b) {l : List (Pth K)} {k : K} {w : List Nat} (q : k ∉ keysW l) : putK (ksW kv l) (kv k) = ksW kv (l ++ [(k, w)]) := by
  rw [ksW, putK_map (fun b _ e => hk b k e) q]
  simp [ksW, keysW]
omit [Inhabited K] in
theorem put_vw (hk : ∀ a b, kv a = kv b → a = b) {l : List (Pth K)} {k : K} {w : List Nat} (q : k ∉ keysW l) : putV (ksW kv l) (vsW l.length) (kv k) (bool true) = vsW (l ++ [(k, w)]).length := by
  rw [ksW, putV_map (fun b _ e => hk b k e) q, List.length_append]
  simp only [vsW, List.length_cons, List.length_nil]
  rw [List.replicate_succ' (n := l.length), List.map_append]; rfl
abbrev natL (w : List Nat) : List Int := w.map fun n : Nat => (n : Int)
theorem natL_snoc (w : List Nat) (s : Nat) : natL (w ++ [s]) = natL w ++ [(s : Int)] := by rw [natL, List.map_append]; rfl
theorem natL_nats (w : List Nat) : (natL w).map int = w.map natI := by rw [List.map_map]; rfl
abbrev resW (o : Option (List Nat)) : AV := nats (o.getD [])
end
abbrev stpN (t : Stp Nat) : AV := .agg [natI t.1, int t.2.1, int t.2.2]
abbrev stpP (t : Stp (Nat × Nat)) : AV := .agg [natI t.1.1, natI t.1.2, int t.2.1, int t.2.2]
end Go.Wd

namespace Go.Am
open Go.RowKit Go.Sort Go.Proofs
set_option linter.unusedVariables false
structure SortsZ (P : Program) (f : FuncId) : Prop where
  callable : Callable P f
  none : ∀ (p : Option Addr) (cap : Nat) (w : World), Calls P f #[.slice p 0 cap] w fun e w' => e = .returned (.tuple #[]) ∧ w' = w
  some : ∀ (blk off cap : Nat) (zs : List Int) (w : World) (hH : Holds (Value.int .i64) w blk off zs.toArray) (hblk : blk < w.heap.size) (hsz : zs.length < 4611686018427387904),
    Calls P f #[.slice (.some ⟨blk, off, .none⟩) zs.length cap] w fun e w' =>
      e = .returned (.tuple #[]) ∧ ∃ n os, w' = grow (putRow (Value.int .i64) (Sort.ahead w n) blk off (zs.mergeSort fun x y => decide (x ≤ y)).toArray) os
section
variable {P : Program} {w0 : Fr} {M0 : Nat → Prop}
variable {o : Oper} {s : St} {x y : Operand} {T T' e : TypeId} {c : Cls} {id t : Nat}
theorem step_sortZ {l : List Int} {f : FuncId} {ats : Array TypeId} (hS : SortsZ P f) (ho : o.op = .call { callee := .value (.func f), args := #[x], argTypes := ats }) (hd : o.dst = some t) (hn : Nat.blt t s.n = true)
    (hnd : Nodup s.s = true) (hx : s.ev x = some (.own id)) (hl : s.o.lookup id = some (.arr e (l.map int))) (hk : szOf P e = some 1) (hsz : l.length < 4611686018427387904) (hM0 : ∀ b, M0 b → b < w0.w.heap.size) :
    Step P w0 M0 o s ((s.upd false id (.arr e ((l.mergeSort fun x y => decide (x ≤ y)).map int))).put t (.v .pl (.tup []))) := by
  rintro a w Q ⟨E, hs⟩
  have hxv := hs.ev hx _ _ hl
  have hob := hs.wok.objs id _ hl
  obtain ⟨vals, ⟨hown, hownF⟩, hcl, hrp⟩ := hob
  have hck := cellsOf_of hk
  have hxl : (l.map int).length = l.length := by simp
  have hvals : vals = l.map (Value.int .i64) := by
    apply List.ext_getElem?
    intro j
    have hlen : vals.length = l.length := by have := hown.1; rw [hck] at this; simpa using this
    rcases Nat.lt_or_ge j l.length with hj | hj
    · have h2 := (hrp j (.sc (.int .i64 l[j])) (by rw [show l.map int = l.map fun z => AV.sc (Value.int .i64 z) from rfl, flat_sv, List.getElem?_map, List.getElem?_eq_getElem hj]; rfl)).2
      rw [List.getD_eq_getElem?_getD, List.getElem?_eq_getElem (by omega), Option.getD_some] at h2
      rw [List.getElem?_eq_getElem (by omega), List.getElem?_map, List.getElem?_eq_getElem hj, Option.map_some]
      congr 1
      generalize vals[j] = u at h2 ⊢
      cases h2; rfl
    · rw [List.getElem?_eq_none (by omega), List.getElem?_eq_none (by simpa using hj)]
  have hrun : (execOp a.eval o).run P w = .ok (.enter f #[E.cur id]) w := by
    have := run_call (P := P) (ev := a.eval) (w := w) (caps := #[]) ho rfl hS.callable
    simpa [hxv] using this
  unfold Oper.wp
  rw [hrun]
  simp only [Oper.upon]
  rcases hown.2 with ⟨hv, hn0⟩ | ⟨gb, cap, cur, hv, hgb, hh, hnc', hcm, hcs, htake⟩
  · -- nothing to sort
    have hl0 : l = [] := List.eq_nil_of_length_eq_zero (by simpa using hn0)
    rw [hv]
    refine (hS.none none 0 w).mono fun e' w' ⟨he, hw⟩ => ?_
    subst he; subst hw
    simp only [hd]
    refine ⟨E, SimE.put ?_ (by simpa [St.upd] using hn) (Rep.tup [] [] rfl (fun j d hd => by simp at hd))⟩
    refine hs.upd false (fun _ => ⟨rfl, .inl ⟨e, _, _, hl, rfl, by simp⟩⟩) hnd hM0 (fun i hi => ⟨rfl, rfl⟩) (.inr rfl) none ⟨rfl, rfl, rfl, Nat.le_refl _, fun _ _ _ => rfl⟩ (fun _ => Nat.le_refl _) (fun g hg' => by cases hg') (fun b hb => .inl ⟨_, hl, hb⟩) (fun rep sv => ?_)
    subst hl0
    simp only [List.mergeSort_nil, List.map_nil]
    refine ⟨[], ⟨⟨by simp, .inl ⟨hv, rfl⟩⟩, hownF⟩, fun x hx => (by cases hx), fun j d hd => (by simp [flat] at hd)⟩
  · rw [hxl] at hv hnc' htake
    rw [hck, Nat.mul_one] at hcs
    rw [hck, Nat.mul_one, hvals] at htake
    rcases Nat.eq_zero_or_pos l.length with hl0 | hpos
    · -- nothing to sort, with room behind
      have hl0 : l = [] := List.eq_nil_of_length_eq_zero hl0
      rw [hv, hl0]
      refine (hS.none _ cap w).mono fun e' w' ⟨he, hw⟩ => ?_
      subst he; subst hw
      simp only [hd]
      refine ⟨E, SimE.put ?_ (by simpa [St.upd] using hn) (Rep.tup [] [] rfl (fun j d hd => by simp at hd))⟩
      refine hs.upd false (fun _ => ⟨rfl, .inl ⟨e, _, _, hl, rfl, by simp [hl0]⟩⟩) hnd hM0 (fun i hi => ⟨rfl, rfl⟩) (.inr rfl) none ⟨rfl, rfl, rfl, Nat.le_refl _, fun _ _ _ => rfl⟩ (fun _ => Nat.le_refl _) (fun g hg' => by cases hg') (fun b hb => .inl ⟨_, hl, hb⟩) (fun rep sv => ?_)
      simp only [List.mergeSort_nil, List.map_nil]
      refine ⟨[], ⟨⟨by simp, .inr ⟨gb, cap, cur, by rw [hv, hl0]; rfl, hgb, hh, Nat.zero_le _, hcm, by rw [hck, Nat.mul_one]; exact hcs, by simp⟩⟩, hownF⟩, fun x hx => (by cases hx), fun j d hd => (by simp [flat] at hd)⟩
    · have hblk : gb < w.heap.size := (Array.getElem?_eq_some_iff.1 hh).1
      have hcurj : ∀ j (hj : j < l.length), cur[j]? = some (Value.int .i64 l[j]) := fun j hj => by
        have : (cur.toList.take l.length)[j]? = some (Value.int .i64 l[j]) := by rw [htake, List.getElem?_map, List.getElem?_eq_getElem hj]; rfl
        rw [List.getElem?_take, if_pos hj, Array.getElem?_toList] at this
        exact this
      have hH : Holds (Value.int .i64) w gb 0 l.toArray := by
        intro j hj
        have hj' : j < l.length := by simpa using hj
        refine ⟨?_, ?_⟩
        · simp only [World.cell?, hh, Nat.zero_add]
          rw [getElem!_pos l.toArray j hj]
          simpa using hcurj j hj'
        · simp only [World.frozen?, hh]
          simp
      have hcall := hS.some gb 0 cap l w hH hblk hsz
      rw [hv]
      refine hcall.mono fun e' w' ⟨he, n, os, hw⟩ => ?_
      subst he
      simp only [hd]
      generalize hml : (l.mergeSort fun x y => decide (x ≤ y)) = ml at hw
      have hmll : ml.length = l.length := by rw [← hml]; simp
      have hw' : w' = sortWorld (Value.int .i64) w gb 0 n ml.toArray os := hw
      have hdrawn : w.drawn ≤ w'.drawn := by rw [hw']; simp [sortWorld, grow, putRow, mapBlock, Sort.ahead]
      have hgr : w.grownBy w' (some gb) := by
        rw [hw']
        exact ⟨rfl, rfl, rfl, by rw [sortWorld_size]; omega, fun k hk hne => sortWorld_other _ _ _ _ _ _ (fun he => hne (by rw [he])) hk⟩
      have hhw : w'.heap[gb]? = some (.cells (putCells (Value.int .i64) 0 ml.toArray cur) e (0, 0)) := by
        have := sortWorld_same (enc := Value.int .i64) w gb n ml.toArray os (off := 0) hh
        rw [hw']; exact this
      refine ⟨E, SimE.put ?_ (by simpa [St.upd] using hn) (Rep.tup [] [] rfl (fun j d hd => by simp at hd))⟩
      refine hs.upd false (fun _ => ⟨rfl, .inl ⟨e, _, _, hl, rfl, by simp [hmll]⟩⟩) hnd hM0 (fun i hi => ⟨rfl, rfl⟩) (.inr rfl) (some gb) hgr (fun _ => hdrawn) (fun g' hg' => ⟨_, hl, by simp only [Option.some.injEq] at hg'; subst hg'; simp only [ownB, hv, Value.ownBlock]⟩) (fun b hb => .inl ⟨_, hl, hb⟩) (fun rep sv => ?_)
      refine ⟨ml.map (Value.int .i64), ⟨⟨by rw [hck]; simp, .inr ⟨gb, cap, _, by rw [hv]; simp [hmll], hgb, hhw, by simpa [hmll] using hnc', hcm, by rw [hck, Nat.mul_one]; simpa [putCells] using hcs, ?_⟩⟩, hownF⟩, ?_, fun j d' hd' => ?_⟩
      · rw [hck]
        apply List.ext_getElem?
        intro j
        simp only [List.length_map, Nat.mul_one, hmll]
        rw [List.getElem?_take]
        by_cases hj : j < l.length
        · rw [if_pos hj, Array.getElem?_toList]
          simp only [putCells, Array.getElem?_mapIdx, hcurj j hj, Option.map_some, Nat.zero_le, true_and, Nat.zero_add, List.size_toArray, hmll, hj, if_true, Nat.sub_zero]
          rw [List.getElem?_map, List.getElem?_eq_getElem (by omega), Option.map_some, getElem!_pos ml.toArray j (by simp; omega)]
          simp
        · rw [if_neg hj, List.getElem?_eq_none (by simp; omega)]
      · intro x hx
        rw [List.mem_map] at hx
        obtain ⟨z, _, rfl⟩ := hx
        rw [hck]; rfl
      · rw [show ml.map int = ml.map fun z => AV.sc (Value.int .i64 z) from rfl, flat_sv, List.getElem?_map, Option.map_eq_some_iff] at hd'
        obtain ⟨z, hz, rfl⟩ := hd'
        refine ⟨rfl, ?_⟩
        rw [List.getD_eq_getElem?_getD, List.getElem?_map, hz]
        exact .sc _ rfl
end
end Go.Am

namespace Go.Am
open Go.RowKit Go.Sort Go.Proofs
set_option linter.unusedVariables false
structure RevI (P : Program) (f : FuncId) : Prop where
  callable : Callable P f
  none : ∀ (p : Option Addr) (cap : Nat) (w : World), Calls P f #[.slice p 0 cap] w fun e w' => e = .returned (.tuple #[]) ∧ w' = w
  some : ∀ (blk off cap : Nat) (zs : List Int) (w : World) (hH : Holds (Value.int .i64) w blk off zs.toArray) (hblk : blk < w.heap.size) (hsz : zs.length < 4611686018427387904),
    Calls P f #[.slice (.some ⟨blk, off, .none⟩) zs.length cap] w fun e w' =>
      e = .returned (.tuple #[]) ∧ ∃ n os, w' = grow (putRow (Value.int .i64) (Sort.ahead w n) blk off (zs.reverse).toArray) os
section
variable {P : Program} {w0 : Fr} {M0 : Nat → Prop}
variable {o : Oper} {s : St} {x y : Operand} {T T' e : TypeId} {c : Cls} {id t : Nat}
theorem grow_none (w : World) : grow w #[] = w := by unfold grow; simp
theorem step_revI {l : List Int} {f : FuncId} {ats : Array TypeId} (hS : RevI P f) (ho : o.op = .call { callee := .value (.func f), args := #[x], argTypes := ats }) (hd : o.dst = some t) (hn : Nat.blt t s.n = true)
    (hnd : Nodup s.s = true) (hx : s.ev x = some (.own id)) (hl : s.o.lookup id = some (.arr e (l.map int))) (hk : szOf P e = some 1) (hsz : l.length < 4611686018427387904) (hM0 : ∀ b, M0 b → b < w0.w.heap.size) :
    Step P w0 M0 o s ((s.upd false id (.arr e ((l.reverse).map int))).put t (.v .pl (.tup []))) := by
  rintro a w Q ⟨E, hs⟩
  have hxv := hs.ev hx _ _ hl
  have hob := hs.wok.objs id _ hl
  obtain ⟨vals, ⟨hown, hownF⟩, hcl, hrp⟩ := hob
  have hck := cellsOf_of hk
  have hxl : (l.map int).length = l.length := by simp
  have hvals : vals = l.map (Value.int .i64) := by
    apply List.ext_getElem?
    intro j
    have hlen : vals.length = l.length := by have := hown.1; rw [hck] at this; simpa using this
    rcases Nat.lt_or_ge j l.length with hj | hj
    · have h2 := (hrp j (.sc (.int .i64 l[j])) (by rw [show l.map int = l.map fun z => AV.sc (Value.int .i64 z) from rfl, flat_sv, List.getElem?_map, List.getElem?_eq_getElem hj]; rfl)).2
      rw [List.getD_eq_getElem?_getD, List.getElem?_eq_getElem (by omega), Option.getD_some] at h2
      rw [List.getElem?_eq_getElem (by omega), List.getElem?_map, List.getElem?_eq_getElem hj, Option.map_some]
      congr 1
      generalize vals[j] = u at h2 ⊢
      cases h2; rfl
    · rw [List.getElem?_eq_none (by omega), List.getElem?_eq_none (by simpa using hj)]
  have hrun : (execOp a.eval o).run P w = .ok (.enter f #[E.cur id]) w := by
    have := run_call (P := P) (ev := a.eval) (w := w) (caps := #[]) ho rfl hS.callable
    simpa [hxv] using this
  unfold Oper.wp
  rw [hrun]
  simp only [Oper.upon]
  rcases hown.2 with ⟨hv, hn0⟩ | ⟨gb, cap, cur, hv, hgb, hh, hnc', hcm, hcs, htake⟩
  · -- nothing to sort
    have hl0 : l = [] := List.eq_nil_of_length_eq_zero (by simpa using hn0)
    rw [hv]
    refine (hS.none none 0 w).mono fun e' w' ⟨he, hw⟩ => ?_
    subst he; subst hw
    simp only [hd]
    refine ⟨E, SimE.put ?_ (by simpa [St.upd] using hn) (Rep.tup [] [] rfl (fun j d hd => by simp at hd))⟩
    refine hs.upd false (fun _ => ⟨rfl, .inl ⟨e, _, _, hl, rfl, by simp⟩⟩) hnd hM0 (fun i hi => ⟨rfl, rfl⟩) (.inr rfl) none ⟨rfl, rfl, rfl, Nat.le_refl _, fun _ _ _ => rfl⟩ (fun _ => Nat.le_refl _) (fun g hg' => by cases hg') (fun b hb => .inl ⟨_, hl, hb⟩) (fun rep sv => ?_)
    subst hl0
    simp only [List.reverse_nil, List.map_nil]
    refine ⟨[], ⟨⟨by simp, .inl ⟨hv, rfl⟩⟩, hownF⟩, fun x hx => (by cases hx), fun j d hd => (by simp [flat] at hd)⟩
  · rw [hxl] at hv hnc' htake
    rw [hck, Nat.mul_one] at hcs
    rw [hck, Nat.mul_one, hvals] at htake
    rcases Nat.eq_zero_or_pos l.length with hl0 | hpos
    · -- nothing to sort, with room behind
      have hl0 : l = [] := List.eq_nil_of_length_eq_zero hl0
      rw [hv, hl0]
      refine (hS.none _ cap w).mono fun e' w' ⟨he, hw⟩ => ?_
      subst he; subst hw
      simp only [hd]
      refine ⟨E, SimE.put ?_ (by simpa [St.upd] using hn) (Rep.tup [] [] rfl (fun j d hd => by simp at hd))⟩
      refine hs.upd false (fun _ => ⟨rfl, .inl ⟨e, _, _, hl, rfl, by simp [hl0]⟩⟩) hnd hM0 (fun i hi => ⟨rfl, rfl⟩) (.inr rfl) none ⟨rfl, rfl, rfl, Nat.le_refl _, fun _ _ _ => rfl⟩ (fun _ => Nat.le_refl _) (fun g hg' => by cases hg') (fun b hb => .inl ⟨_, hl, hb⟩) (fun rep sv => ?_)
      simp only [List.reverse_nil, List.map_nil]
      refine ⟨[], ⟨⟨by simp, .inr ⟨gb, cap, cur, by rw [hv, hl0]; rfl, hgb, hh, Nat.zero_le _, hcm, by rw [hck, Nat.mul_one]; exact hcs, by simp⟩⟩, hownF⟩, fun x hx => (by cases hx), fun j d hd => (by simp [flat] at hd)⟩
    · have hblk : gb < w.heap.size := (Array.getElem?_eq_some_iff.1 hh).1
      have hcurj : ∀ j (hj : j < l.length), cur[j]? = some (Value.int .i64 l[j]) := fun j hj => by
        have : (cur.toList.take l.length)[j]? = some (Value.int .i64 l[j]) := by rw [htake, List.getElem?_map, List.getElem?_eq_getElem hj]; rfl
        rw [List.getElem?_take, if_pos hj, Array.getElem?_toList] at this
        exact this
      have hH : Holds (Value.int .i64) w gb 0 l.toArray := by
        intro j hj
        have hj' : j < l.length := by simpa using hj
        refine ⟨?_, ?_⟩
        · simp only [World.cell?, hh, Nat.zero_add]
          rw [getElem!_pos l.toArray j hj]
          simpa using hcurj j hj'
        · simp only [World.frozen?, hh]
          simp
      have hcall := hS.some gb 0 cap l w hH hblk hsz
      rw [hv]
      refine hcall.mono fun e' w' ⟨he, n, os, hw⟩ => ?_
      subst he
      simp only [hd]
      generalize hml : (l.reverse) = ml at hw
      have hmll : ml.length = l.length := by rw [← hml]; simp
      have hw' : w' = sortWorld (Value.int .i64) w gb 0 n ml.toArray os := hw
      have hdrawn : w.drawn ≤ w'.drawn := by rw [hw']; simp [sortWorld, grow, putRow, mapBlock, Sort.ahead]
      have hgr : w.grownBy w' (some gb) := by
        rw [hw']
        exact ⟨rfl, rfl, rfl, by rw [sortWorld_size]; omega, fun k hk hne => sortWorld_other _ _ _ _ _ _ (fun he => hne (by rw [he])) hk⟩
      have hhw : w'.heap[gb]? = some (.cells (putCells (Value.int .i64) 0 ml.toArray cur) e (0, 0)) := by
        have := sortWorld_same (enc := Value.int .i64) w gb n ml.toArray os (off := 0) hh
        rw [hw']; exact this
      refine ⟨E, SimE.put ?_ (by simpa [St.upd] using hn) (Rep.tup [] [] rfl (fun j d hd => by simp at hd))⟩
      refine hs.upd false (fun _ => ⟨rfl, .inl ⟨e, _, _, hl, rfl, by simp [hmll]⟩⟩) hnd hM0 (fun i hi => ⟨rfl, rfl⟩) (.inr rfl) (some gb) hgr (fun _ => hdrawn) (fun g' hg' => ⟨_, hl, by simp only [Option.some.injEq] at hg'; subst hg'; simp only [ownB, hv, Value.ownBlock]⟩) (fun b hb => .inl ⟨_, hl, hb⟩) (fun rep sv => ?_)
      refine ⟨ml.map (Value.int .i64), ⟨⟨by rw [hck]; simp, .inr ⟨gb, cap, _, by rw [hv]; simp [hmll], hgb, hhw, by simpa [hmll] using hnc', hcm, by rw [hck, Nat.mul_one]; simpa [putCells] using hcs, ?_⟩⟩, hownF⟩, ?_, fun j d' hd' => ?_⟩
      · rw [hck]
        apply List.ext_getElem?
        intro j
        simp only [List.length_map, Nat.mul_one, hmll]
        rw [List.getElem?_take]
        by_cases hj : j < l.length
        · rw [if_pos hj, Array.getElem?_toList]
          simp only [putCells, Array.getElem?_mapIdx, hcurj j hj, Option.map_some, Nat.zero_le, true_and, Nat.zero_add, List.size_toArray, hmll, hj, if_true, Nat.sub_zero]
          rw [List.getElem?_map, List.getElem?_eq_getElem (by omega), Option.map_some, getElem!_pos ml.toArray j (by simp; omega)]
          simp
        · rw [if_neg hj, List.getElem?_eq_none (by simp; omega)]
      · intro x hx
        rw [List.mem_map] at hx
        obtain ⟨z, _, rfl⟩ := hx
        rw [hck]; rfl
      · rw [show ml.map int = ml.map fun z => AV.sc (Value.int .i64 z) from rfl, flat_sv, List.getElem?_map, Option.map_eq_some_iff] at hd'
        obtain ⟨z, hz, rfl⟩ := hd'
        refine ⟨rfl, ?_⟩
        rw [List.getD_eq_getElem?_getD, List.getElem?_map, hz]
        exact .sc _ rfl
end
end Go.Am

namespace Go.Proofs
open Go.Shelf
def Tryz.revI_ren : Go.Shelf.Ren := ⟨fun | 35 => 97 | n => n, fun | 22 => 22 | 23 => 3 | 3 => 3 | 4 => 4 | 0 => 0 | n => n, fun | n => n⟩
theorem Tryz.revI : Go.Proofs.SlLaysN.n35 Tryz.prog Tryz.revI_ren := {
  mixed := by kernel_rfl
  f35 := ⟨Tryz.f97.name, by decide, Tryz.func97.trans (congrArg some (by kernel_rfl))⟩
  t0 := Tryz.underlying0
  a0 := Tryz.isAgg0
  z0 := Tryz.sizeOf0
  v0 := Tryz.zeroValue0
  t3 := Tryz.underlying3
  a3 := Tryz.isAgg3
  z3 := Tryz.sizeOf3
  v3 := Tryz.zeroValue3
  t4 := Tryz.underlying4
  a4 := Tryz.isAgg4
  z4 := Tryz.sizeOf4
  v4 := Tryz.zeroValue4
  t22 := Tryz.underlying22
  a22 := Tryz.isAgg22
  z22 := Tryz.sizeOf22
  v22 := Tryz.zeroValue22
  t23 := Tryz.underlying3
  a23 := Tryz.isAgg3
  z23 := Tryz.sizeOf3
  v23 := Tryz.zeroValue3 }
end Go.Proofs

namespace Go.Wd
set_option linter.unusedVariables false
open Go.Am
section
variable {d : Dfa}
def notZ (d : Dfa) : Dfa := if validD d = true then notP d else zeroD
theorem notZ_t (h : validD d = true) : notZ d = minZ (flipD d) := by
  rw [minZ_t (ok_valid (flip_ok (valid_ok h)))]; exact if_pos h
theorem notZ_f (h : validD d = false) : notZ d = zeroD := if_neg (by rw [h]; decide)
def ng (l : List Bool) (i : Nat) : List Bool := (l.take i).map (fun b => !b) ++ l.drop i
theorem ng_zero (l : List Bool) : ng l 0 = l := by simp [ng]
theorem ng_all (l : List Bool) : ng l l.length = l.map fun b => !b := by simp [ng]
theorem ng_len (l : List Bool) (i : Nat) : (ng l i).length = l.length := by unfold ng; rw [List.length_append, List.length_map, List.length_take, List.length_drop]; omega
theorem ng_get {l : List Bool} {i : Nat} (h : i < l.length) : (ng l i).getD i default = l.getD i default := by
  unfold ng
  rw [List.getD_eq_getElem?_getD, List.getElem?_append_right (by rw [List.length_map, List.length_take]; omega), List.length_map, List.length_take, Nat.min_eq_left (by omega), Nat.sub_self, List.getElem?_drop, Nat.add_zero, ← List.getD_eq_getElem?_getD]
theorem ng_set {l : List Bool} {i : Nat} (h : i < l.length) : ((ng l i).map bool).set i (bool (!(ng l i).getD i default)) = (ng l (i + 1)).map bool := by
  rw [← List.map_set, ng_get h]
  congr 1
  unfold ng
  rw [List.set_append_right _ _ (by rw [List.length_map, List.length_take]; omega), List.length_map, List.length_take, Nat.min_eq_left (by omega), Nat.sub_self, List.drop_eq_getElem_cons h, List.set_cons_zero, List.take_add_one, List.getElem?_eq_getElem h, el_get h, List.map_append, List.append_assoc]
  rfl
theorem take_one {α : Type} [Inhabited α] {l : List α} {i : Nat} (h : i < l.length) : l.take (i + 1) = l.take i ++ [l.getD i default] := by
  rw [List.take_add_one, List.getElem?_eq_getElem h, el_get h]; rfl
/-! least words -/
def leastZ (d : Dfa) : Option (List Nat) := if validD d = true then leastP d else none
theorem leastZ_t (h : validD d = true) : leastZ d = leastP d := if_pos h
theorem leastZ_f (h : validD d = false) : leastZ d = none := if_neg (by rw [h]; decide)
theorem stpD_mem (hd : okD d) : ∀ x ∈ List.range d.n, ∀ s, s < d.k → d.stp x s ∈ List.range d.n := fun x hx s hs => List.mem_range.2 (hd.stp (List.mem_range.1 hx) hs)
/-! the reference's search -/
def mt (n : Nat) (l : List (Pth Nat)) : List Bool := (List.range n).map fun q => decide (q ∈ keysW l)
end
end Go.Wd

