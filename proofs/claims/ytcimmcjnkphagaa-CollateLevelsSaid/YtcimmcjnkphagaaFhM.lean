/-
  The law CollateLevels holds: for every input it returns true, and its arguments read as before.
-/
import Derived.Test.YtcimmcjnkphagaaAm19
import Derived.Scope
import Derived.Control
import Derived.Lib.SliceRun
import Derived.Test.YtcimmcjnkphagaaPp
import Derived.Test.YtcimmcjnkphagaaCk
import Derived.Test.YtcimmcjnkphagaaCr
import Derived.Test.YtcimmcjnkphagaaCl
import Derived.Test.YtcimmcjnkphagaaCm
import Derived.Test.YtcimmcjnkphagaaCb
namespace Go.Am
open Go.RowKit
set_option linter.unusedVariables false
section
variable {P : Program} {w0 : World} {M0 : Nat → Prop} {s s' : St}
def scopeQ (Q : Exit → St → Prop) : Exit → St → Prop
  | .goto _, _ => False
  | e, s => Q e s
theorem scopeQ_normal {Q : Exit → St → Prop} (h : Q .normal s) : scopeQ Q .normal s := h
theorem scopeQ_ret {Q : Exit → St → Prop} (h : Q .ret s) : scopeQ Q .ret s := h
theorem scopeQ_exit {Q : Exit → St → Prop} {i : Nat} (h : Q (.exit i) s) : scopeQ Q (.exit i) s := h
theorem code_scope {c : Code} {Q : Exit → St → Prop} (h : CodeOk P w0 M0 c s (scopeQ Q)) : CodeOk P w0 M0 (.scope c) s Q := by
  intro a w hs
  refine wp_scope_straight (wp_mono (h a w hs) fun e a' w' ⟨s', h1, h2⟩ => ?_)
  cases e <;> first | exact h1.elim | exact ⟨s', h1, h2⟩
theorem code_label {l : Nat} {Q : Exit → St → Prop} (h : Q .normal s) : CodeOk P w0 M0 (.label l) s Q := fun a w hs => wp_label ⟨s, h, hs⟩
section ops
variable {o : Oper} {ρ : Operand → Option SV} {ob : List (Nat × Ob)} {x y z : Operand} {T T' e : TypeId} {k q : IntKind} {a b : Int} {c : Cls}
theorem pure_shr (ho : o.op = .binOp .shr T x y T') (hx : scal ρ x = some (.int k a)) (hy : scal ρ y = some (.int q b)) (hb : 0 ≤ b) : Pure P w0 M0 o ρ ob (.v .pl (.sc (.int k (a.fdiv (2 ^ (min b.toNat k.bits)))))) :=
  pure_bin ho hx hy rfl rfl (fun w => by simp only [binOp_shr, Op.shift, if_neg (show ¬ b < 0 by omega), Sem.run_pure])
theorem pure_shl (ho : o.op = .binOp .shl T x y T') (hx : scal ρ x = some (.int k a)) (hy : scal ρ y = some (.int q b)) (hb : 0 ≤ b) : Pure P w0 M0 o ρ ob (.v .pl (.sc (.int k (k.wrap (a * 2 ^ (min b.toNat k.bits)))))) :=
  pure_bin ho hx hy rfl rfl (fun w => by simp only [binOp_shl, Op.shift, if_neg (show ¬ b < 0 by omega), Sem.run_pure])
theorem pure_xor (ho : o.op = .binOp .xor T x y T') (hx : scal ρ x = some (.int k a)) (hy : scal ρ y = some (.int k b)) : Pure P w0 M0 o ρ ob (.v .pl (.sc (.int k (k.wrap ((BitVec.ofInt k.bits a ^^^ BitVec.ofInt k.bits b).toNat : Nat))))) :=
  pure_bin ho hx hy rfl rfl (fun w => by simp only [binOp_xor, Op.intBits, Sem.run_pure])
/-- A number, known. -/
theorem pure_toi {c : Cls} {a a' : Int} (h : Pure P w0 M0 o ρ ob (.v c (.sc (.int k a)))) (e : a = a') : Pure P w0 M0 o ρ ob (.v c (.sc (.int k a'))) := by
  subst e; exact h
theorem xor0 {a : Int} (h : 0 ≤ a ∧ a < 256) : IntKind.u8.wrap ((BitVec.ofInt IntKind.u8.bits a ^^^ BitVec.ofInt IntKind.u8.bits 0).toNat : Nat) = a := by
  show IntKind.u8.wrap ((BitVec.ofInt 8 a ^^^ BitVec.ofInt 8 0).toNat : Nat) = a
  rw [show BitVec.ofInt 8 0 = 0#8 from rfl]
  rw [BitVec.xor_zero, BitVec.toNat_ofInt]
  have : IntKind.u8.wrap (((a % ((2 ^ 8 : Nat) : Int)).toNat : Nat) : Int) = a := by
    have h2 : a % ((2 ^ 8 : Nat) : Int) = a := Int.emod_eq_of_lt h.1 (by simpa using h.2)
    rw [h2, Int.toNat_of_nonneg h.1]
    simp only [IntKind.wrap, IntKind.bits, IntKind.signed]
    first | (simp; omega) | omega
  exact this
abbrev byteI (n : Int) : AV := .sc (.int .u8 n)
theorem numsOf_map : ∀ l : List Int, numsOf (l.map byteI) = some l
  | [] => rfl
  | n :: r => by
    show (match numsOf (r.map byteI) with | some l => some (n :: l) | none => none) = _
    rw [numsOf_map r]
theorem pure_btosm {l : List Int} (ho : o.op = .convert T T' x) (hT : P.underlying T = some (.slice e)) (he : P.underlying e = some (.int .u8)) (hT' : P.underlying T' = some .string) (hx : viewAt ρ ob x = some (c, .sl (l.map byteI))) :
    Pure P w0 M0 o ρ ob (.v .pl (sbytes (l.map fun n => UInt8.ofNat n.toNat))) := pure_btos ho hT he hT' hx (numsOf_map l)
theorem pure_eqsl {va : Option Addr} {n m n' m' : Nat} (ho : o.op = .binOp .eql T x y T') (hT : P.underlying T = some (.slice e)) (hx : scal ρ x = some (.slice va n m)) (hy : scal ρ y = some (.slice none n' m')) : Pure P w0 M0 o ρ ob (.v .pl (bool va.isNone)) :=
  pure_value fun E w ev hw h => by
    have hxv : ev x = .slice va n m := scal_ok h hx
    have hyv : ev y = .slice none n' m' := scal_ok h hy
    exact ⟨.bool va.isNone, w, by simp [execOp, ho, hxv, hyv, eqGuard, Lib.run_eql_slice_nil w _ _ _ _ _ _ _ hT], .refl _ _, .sc _ rfl⟩
theorem pure_eqsl_ne {xs : List AV} {n' m' : Nat} (ho : o.op = .binOp .eql T x y T') (hT : P.underlying T = some (.slice e)) (hx : viewAt ρ ob x = some (c, .sl xs)) (hy : scal ρ y = some (.slice none n' m')) (h0 : 0 < xs.length) : Pure P w0 M0 o ρ ob (.v .pl (bool false)) :=
  pure_value fun E w ev hw h => by
    have hr := viewAt_ok hw h hx
    have hyv : ev y = .slice none n' m' := scal_ok h hy
    generalize hq : ev x = q at hr
    cases hr with
    | sl a n cap _ k cv hn hc hk hb hl hr =>
      obtain ⟨b, of, rfl, _⟩ := hb (by omega)
      exact ⟨.bool false, w, by simp [execOp, ho, hq, hyv, eqGuard, Lib.run_eql_slice_nil w _ _ _ _ _ _ _ hT], .refl _ _, .sc _ rfl⟩
theorem src_sc0 {s : St} {y : Operand} {va : Option Addr} {m k : Nat} (hy : scal s.ev y = some (.slice va 0 m)) : Src P w0 M0 s y k [] := by
  intro E a w hs
  have hv : a.eval y = .slice va 0 m := scal_ok (ρ := s.ev) (ob := s.o) (fun x e hx => hs.ev hx) hy
  exact ⟨va, 0, m, [], hv, rfl, by simp, fun h => absurd h (by omega), fun x hx => (by cases hx), fun j d hd => (by simp [flat] at hd)⟩
end ops
end
end Go.Am
namespace Go.Wb
open Go.Am
def fold1 (a : List Letter) (x : Int) : Int := if isL a x = true then (a.getD x.toNat default).base else x
def foldP (a : List Letter) (w : List Int) : List Int := w.map (fold1 a)
theorem foldP_len (a : List Letter) (w : List Int) : (foldP a w).length = w.length := by simp [foldP]
theorem lets_level (a : List Letter) (u : List Int) : level a u 4 = lets a u := by
  unfold level
  rw [if_pos (by omega)]
  have : (lets a u).map (lev a 4) = (lets a u).map id := List.map_congr_left fun x _ => rfl
  rw [this, List.map_id]
theorem level_eq (a : List Letter) (u : List Int) {k : Int} (hk : 1 ≤ k ∧ k ≤ 4) : level a u k = (lets a u).map (lev a k) := by unfold level; rw [if_pos hk]
theorem lets_mem {a : List Letter} {u : List Int} {x : Int} (h : x ∈ lets a u) : isL a x = true := by unfold lets at h; exact (List.mem_filter.1 h).2
theorem base_isL {a : List Letter} (h : validA a = true) {x : Int} (hx : isL a x = true) : isL a (a.getD x.toNat default).base = true ∧ (a.getD (a.getD x.toNat default).base.toNat default).base = (a.getD x.toNat default).base ∧
    (a.getD (a.getD x.toNat default).base.toNat default).mark = 0 ∧ (a.getD (a.getD x.toNat default).base.toNat default).cap = 0 := by
  rw [isL_iff] at hx
  obtain ⟨_, q2, q3, q4, _⟩ := valid_get h (i := x.toNat) (by omega)
  have hb : isL a (a.getD x.toNat default).base = true := isL_true ⟨q2, q3⟩
  refine ⟨hb, q4, ?_⟩
  unfold validA at h
  rw [decide_eq_true_eq] at h
  have h2 := (h.2 (a.getD x.toNat default).base.toNat (by omega)).2.1
  exact h2 (by rw [q4]; omega)
/-- The folded letters of a word. -/
def baseP (a : List Letter) (w : List Int) : List Int := foldP a (level a w 4)
theorem baseP_eq (a : List Letter) (w : List Int) : baseP a w = level a w 1 := by
  unfold baseP foldP
  rw [lets_level, level_eq a w (by omega)]
  refine List.map_congr_left fun x hx => ?_
  unfold fold1 lev
  rw [if_pos (lets_mem hx), if_pos rfl]
theorem baseP_lets {a : List Letter} (h : validA a = true) (w : List Int) : lets a (baseP a w) = baseP a w := by
  unfold lets
  rw [List.filter_eq_self]
  intro y hy
  rw [baseP_eq, level_eq a w (by omega)] at hy
  obtain ⟨x, hx, rfl⟩ := List.mem_map.1 hy
  have := (base_isL h (lets_mem hx)).1
  unfold lev; rw [if_pos rfl]; exact this
theorem baseP_level1 {a : List Letter} (h : validA a = true) (w : List Int) : level a (baseP a w) 1 = level a w 1 := by
  rw [level_eq a _ (by omega), baseP_lets h, baseP_eq, level_eq a w (by omega), List.map_map]
  refine List.map_congr_left fun x hx => ?_
  have := (base_isL h (lets_mem hx)).2.1
  simp only [Function.comp, lev, if_true]
  exact this
theorem zero_le : ∀ {l : List Int} {f : Int → Int}, (∀ x ∈ l, 0 ≤ f x) → order (l.map fun _ => 0) (l.map f) ≤ 0
  | [], _, _ => Int.le_refl _
  | x :: r, f, h => by
    have h1 := h x List.mem_cons_self
    have ih := zero_le (l := r) (f := f) fun y hy => h y (List.mem_cons_of_mem _ hy)
    simp only [List.map_cons, order]
    (repeat' split) <;> omega
theorem baseP_level23 {a : List Letter} (h : validA a = true) (w : List Int) {k : Int} (hk : k = 2 ∨ k = 3) : order (level a (baseP a w) k) (level a w k) ≤ 0 := by
  have e1 : level a (baseP a w) k = (lets a w).map fun _ => 0 := by
    rw [level_eq a _ (by omega), baseP_lets h, baseP_eq, level_eq a w (by omega), List.map_map]
    refine List.map_congr_left fun x hx => ?_
    have hb := (base_isL h (lets_mem hx)).2.2
    simp only [Function.comp]
    rcases hk with rfl | rfl
    · show lev a 2 (lev a 1 x) = 0
      unfold lev; simp only [if_true]; exact hb.1
    · show lev a 3 (lev a 1 x) = 0
      unfold lev; simp only [if_true]; exact hb.2
  rw [e1, level_eq a w (by omega)]
  exact zero_le fun x hx => (lev_bd h (lets_mem hx) k).1
theorem upto_succ (a : List Letter) (v w : List Int) (n : Nat) (i : Int) : upto a v w (n + 1) i = if order (level a v i) (level a w i) ≠ 0 then order (level a v i) (level a w i) else upto a v w n (i + 1) := rfl
/-- A word is not less than its folded letters, unless they are equal up to level 3. -/
theorem base_less {a : List Letter} (h : validA a = true) (w : List Int) (hgt : 0 < order (keyC a (baseP a w)) (keyC a w)) : keyP a (baseP a w) 3 = keyP a w 3 := by
  rw [cmp_same, if_pos h] at hgt
  rw [← order_eq0, key_upto h _ _ (by omega)]
  have h1 : order (level a (baseP a w) 1) (level a w 1) = 0 := by rw [baseP_level1 h]; exact order_self _
  have h2 := baseP_level23 h w (k := 2) (.inl rfl)
  have h3 := baseP_level23 h w (k := 3) (.inr rfl)
  rw [upto_succ, if_neg (by omega), upto_succ] at hgt
  rw [upto_succ, if_neg (by omega), upto_succ]
  by_cases c2 : order (level a (baseP a w) (1 + 1)) (level a w (1 + 1)) = 0
  · rw [if_neg (by omega), upto_succ] at hgt ⊢
    by_cases c3 : order (level a (baseP a w) (1 + 1 + 1)) (level a w (1 + 1 + 1)) = 0
    · rw [if_neg (by omega)]; rfl
    · rw [if_pos c3] at hgt
      have e : (1 + 1 + 1 : Int) = 3 := rfl
      rw [e] at hgt; omega
  · rw [if_pos c2] at hgt
    have e : (1 + 1 : Int) = 2 := rfl
    rw [e] at hgt; omega
theorem same1_base {a : List Letter} (h : validA a = true) (w : List Int) : keyP a w 1 = keyP a (baseP a w) 1 := by rw [key1, key1, baseP_level1 h]
theorem inc_inj {x y : List Int} : x.map (· + 1) = y.map (· + 1) ↔ x = y := by
  rw [← order_eq0, order_inc, order_eq0]
theorem same1_iff (a : List Letter) (v w : List Int) : keyP a v 1 = keyP a w 1 ↔ baseP a v = baseP a w := by rw [key1, key1, inc_inj, baseP_eq, baseP_eq]
theorem same4_iff {a : List Letter} (h : validA a = true) (v w : List Int) : keyP a v 4 = keyP a w 4 ↔ order (keyC a v) (keyC a w) = 0 := by
  rw [cmp_same, if_pos h, ← key_upto h v w (by omega), order_eq0]
theorem same_down {a : List Letter} (h : validA a = true) {v w : List Int} {n : Nat} (h1 : 2 ≤ n ∧ n ≤ 4) (he : keyP a v n = keyP a w n) : keyP a v (n - 1) = keyP a w (n - 1) := by
  rw [← order_eq0, key_upto h _ _ (by omega)] at he ⊢
  by_cases h0 : upto a v w (n - 1) 1 = 0
  · exact h0
  · have := upto_lt (m := n) (by omega) h0; omega
theorem fold_get {a : List Letter} {w : List Int} {i : Nat} (hi : i < w.length) : (foldP a (w.take i) ++ w.drop i).getD i default = w.getD i default := by
  have h := foldP_len a (w.take i)
  rw [List.length_take, Nat.min_eq_left (by omega)] at h
  rw [List.getD_eq_getElem?_getD, List.getElem?_append_right (by omega), h, Nat.sub_self, List.getElem?_drop, Nat.add_zero, ← List.getD_eq_getElem?_getD]
theorem fold_set {a : List Letter} {w : List Int} {i : Nat} (hi : i < w.length) (hl : isL a (w.getD i default) = true) :
    ((foldP a (w.take i) ++ w.drop i).map int).set i (int (a.getD (w.getD i default).toNat default).base) = (foldP a (w.take (i + 1)) ++ w.drop (i + 1)).map int := by
  have h := foldP_len a (w.take i)
  rw [List.length_take, Nat.min_eq_left (by omega)] at h
  rw [← List.map_set, List.set_append_right _ _ (by omega), h, Nat.sub_self, drop_cons hi, List.set_cons_zero, take_succ hi]
  congr 1
  unfold foldP
  rw [List.map_append (f := fold1 a), List.map_singleton, List.append_assoc]
  unfold fold1
  rw [if_pos hl]; rfl
theorem fold_keep {a : List Letter} {w : List Int} {i : Nat} (hi : i < w.length) (hl : isL a (w.getD i default) = false) : foldP a (w.take (i + 1)) ++ w.drop (i + 1) = foldP a (w.take i) ++ w.drop i := by
  rw [drop_cons hi, take_succ hi]
  unfold foldP
  rw [List.map_append, List.map_singleton, List.append_assoc]
  unfold fold1
  rw [if_neg (by rw [hl]; simp)]; rfl
end Go.Wb
namespace Go.Proofs.Ytcimmcjnkphagaa
open Go.Am Go.Wb
set_option linter.unusedVariables false
set_option linter.unusedSimpArgs false
theorem fn53 : Fn1 Try.prog 53 Try.f53.ntmps 2 (Try.f53.body.getD .skip) := ⟨Try.f53, Try.func53, rfl, rfl, rfl, by kernel_rfl⟩
set_option maxRecDepth 100000 in
theorem clone_nil {c : Nat} : CallF Try.prog 53 [.sc (.slice none 0 c)] (.fresh 3 []) := by
  refine callF_of_code fn53 (Nat.le_of_ble_eq_true rfl) fun w0 M0 hM0 => ?_
  refine code_seq ?_
  refine code_ops _ rfl ?_
  refine ol_step rfl (step_nil rfl rfl rfl rfl rfl 3 hM0) ?_
  refine ol_nil ?_
  refine seq_pick 8 [(0, _)] [] rfl ⟨rfl, trivial⟩ trivial ?_
  refine code_seq ?_
  refine code_seq ?_
  refine code_ops _ rfl ?_
  refine ol_pure rfl rfl rfl (pure_move rfl rfl) ?_
  refine ol_pure rfl rfl rfl (pure_eqsl rfl Try.underlying22 rfl rfl) ?_
  refine ol_nil ?_
  refine seq_pick 8 [(0, _), (4, _)] [] rfl ⟨rfl, rfl, trivial⟩ trivial ?_
  refine code_cond_t rfl ?_
  refine code_seq ?_
  refine code_ops _ rfl ?_
  refine ol_step rfl (step_nil rfl rfl rfl rfl rfl 3 hM0) ?_
  refine ol_nil ?_
  refine seq_pick 8 [(2, _)] [(2, _)] rfl ⟨rfl, trivial⟩ ⟨rfl, trivial⟩ ?_
  refine code_ret ?_
  refine seqQ_ret ?_
  refine end_ret rfl ?_   -- end 1
  rfl
set_option maxRecDepth 100000 in
theorem clone_none {a : Addr} {c : Nat} : CallF Try.prog 53 [.sc (.slice (some a) 0 c)] (.fresh 3 []) := by
  refine callF_of_code fn53 (Nat.le_of_ble_eq_true rfl) fun w0 M0 hM0 => ?_
  refine code_seq ?_
  refine code_ops _ rfl ?_
  refine ol_step rfl (step_nil rfl rfl rfl rfl rfl 3 hM0) ?_
  refine ol_nil ?_
  refine seq_pick 8 [(0, _)] [] rfl ⟨rfl, trivial⟩ trivial ?_
  refine code_seq ?_
  refine code_seq ?_
  refine code_ops _ rfl ?_
  refine ol_pure rfl rfl rfl (pure_move rfl rfl) ?_
  refine ol_pure rfl rfl rfl (pure_eqsl rfl Try.underlying22 rfl rfl) ?_
  refine ol_nil ?_
  refine seq_pick 8 [(0, _), (4, _)] [] rfl ⟨rfl, rfl, trivial⟩ trivial ?_
  refine code_cond_f rfl ?_
  refine code_skip ?_
  refine seq_pick 8 [(0, _)] [] rfl ⟨rfl, trivial⟩ trivial ?_
  refine code_seq ?_
  refine code_ops _ rfl ?_
  refine ol_step rfl (step_lit0 rfl rfl rfl rfl rfl Try.underlying22 el3 hM0) ?_
  refine ol_pure rfl rfl rfl (pure_move rfl rfl) ?_
  refine ol_step rfl (step_append rfl rfl rfl rfl Try.underlying22 el3 rfl rfl hM0 (src_sc0 rfl) (by decide) (by decide)) ?_
  refine ol_pure rfl rfl rfl (pure_assign rfl rfl) ?_
  refine ol_nil ?_
  refine seq_pick 8 [(2, _)] [(5, _)] rfl ⟨rfl, trivial⟩ ⟨rfl, trivial⟩ ?_
  refine code_ret ?_
  refine end_ret rfl ?_   -- end 1
  rfl
set_option maxRecDepth 100000 in
theorem clone_some {l : List Int} (hl : l.length ≤ 1099511627776) (h0 : 0 < l.length) : CallF Try.prog 53 [ints l] (.fresh 3 (l.map int)) := by
  refine callF_of_code fn53 (Nat.le_of_ble_eq_true rfl) fun w0 M0 hM0 => ?_
  refine code_seq ?_
  refine code_ops _ rfl ?_
  refine ol_step rfl (step_nil rfl rfl rfl rfl rfl 3 hM0) ?_
  refine ol_nil ?_
  refine seq_pick 8 [(0, _)] [] rfl ⟨rfl, trivial⟩ trivial ?_
  refine code_seq ?_
  refine code_seq ?_
  refine code_ops _ rfl ?_
  refine ol_pure rfl rfl rfl (pure_move rfl rfl) ?_
  refine ol_pure rfl rfl rfl (pure_eqsl_ne rfl Try.underlying22 rfl rfl (by simp only [List.length_map]; exact h0)) ?_
  refine ol_nil ?_
  refine seq_pick 8 [(0, _), (4, _)] [] rfl ⟨rfl, rfl, trivial⟩ trivial ?_
  refine code_cond_f rfl ?_
  refine code_skip ?_
  refine seq_pick 8 [(0, _)] [] rfl ⟨rfl, trivial⟩ trivial ?_
  refine code_seq ?_
  refine code_ops _ rfl ?_
  refine ol_step rfl (step_lit0 rfl rfl rfl rfl rfl Try.underlying22 el3 hM0) ?_
  refine ol_pure rfl rfl rfl (pure_move rfl rfl) ?_
  refine ol_step rfl (step_append rfl rfl rfl rfl Try.underlying22 el3 rfl rfl hM0 (src_scm rfl (fun _ => ⟨_, rfl⟩)) (by simp only [List.length_map, List.length_nil]; omega) (by simp only [List.length_map, List.length_nil]; omega)) ?_
  refine ol_pure rfl rfl rfl (pure_assign rfl rfl) ?_
  refine ol_nil ?_
  refine seq_pick 8 [(2, _)] [(5, _)] rfl ⟨rfl, trivial⟩ ⟨rfl, trivial⟩ ?_
  refine code_ret ?_
  refine end_ret rfl ?_   -- end 1
  rfl
theorem clone_call {l : List Int} (hl : l.length ≤ 1099511627776) : CallF Try.prog 53 [ints l] (.fresh 3 (l.map int)) := by
  rcases Nat.eq_zero_or_pos l.length with h | h
  · have hl0 : l = [] := List.eq_nil_of_length_eq_zero h
    subst hl0
    refine ⟨(clone_nil (c := 0)).1, fun w vs hv hr => ?_⟩
    match vs, hv with
    | [v], _ =>
      have h0 := hr 0 _ rfl
      simp only [List.getD_cons_zero] at h0
      generalize hq : ints [] = q at h0
      cases h0 with
      | sl a n cap xs k cv hn hc hk hb hl2 hr2 =>
        simp only [ints, List.map_nil, AV.sl.injEq] at hq
        subst hq
        simp only [List.length_nil] at hn
        subst hn
        have one : ∀ z : Value, z.oneCell' = true → ∀ (j : Nat) d, [AV.sc z][j]? = some d → Rep w (fun _ => False) ([z].getD j undef) d := fun z hz j d hd => by
          match j with
          | 0 => simp at hd; subst hd; exact .sc _ hz
          | j + 1 => simp at hd
        cases a with
        | none => exact (clone_nil (c := cap)).2 w [.slice none 0 cap] rfl (one _ rfl)
        | some ad => exact (clone_none (a := ad) (c := cap)).2 w [.slice (some ad) 0 cap] rfl (one _ rfl)
      | _ => cases hq
  · exact clone_some hl h
theorem fn33 : Fn1 Try.prog 33 Try.f33.ntmps 4 (Try.f33.body.getD .skip) := ⟨Try.f33, Try.func33, rfl, rfl, rfl, by kernel_rfl⟩
set_option maxRecDepth 100000 in
set_option maxHeartbeats 4000000 in
theorem fold_call {a : List Letter} {w : List Int} (hA : okA a) (hv : validA a = true) (hw : w.length ≤ 1099511627776) : CallF Try.prog 33 [letters a, ints w] (.fresh 3 ((foldP a w).map int)) := by
  have hVal := valid_call hA.len hA.txt
  have hal := hA.len
  rw [hv] at hVal
  refine callF_of_code fn33 (Nat.le_of_ble_eq_true rfl) fun w0 M0 hM0 => ?_
  refine code_seq ?_
  refine code_ops _ rfl ?_
  refine ol_pure rfl rfl rfl (pure_assign rfl rfl) ?_
  refine ol_nil ?_
  refine seq_pick 36 [(0, _), (1, _)] [] rfl ⟨rfl, rfl, trivial⟩ trivial ?_
  refine code_seq ?_
  refine code_ops _ rfl ?_
  refine ol_pure rfl rfl rfl (pure_move rfl rfl) ?_
  refine ol_step rfl (step_call_own rfl rfl rfl rfl rfl rfl (clone_call hw) hM0) ?_
  refine ol_pure rfl rfl rfl (pure_assign rfl rfl) ?_
  refine ol_nil ?_
  refine seq_pick 36 [(0, _), (5, _)] [(9, _)] rfl ⟨rfl, rfl, trivial⟩ ⟨rfl, trivial⟩ ?_
  refine code_seq ?_
  refine code_seq ?_
  refine code_ops _ rfl ?_
  refine ol_pure rfl rfl rfl (pure_move rfl rfl) ?_
  refine ol_pure rfl rfl rfl (pure_call rfl rfl rfl (hVal) hM0) ?_
  refine ol_pure rfl rfl rfl (pure_not rfl rfl) ?_
  refine ol_nil ?_
  refine seq_pick 36 [(0, _), (5, _), (12, _)] [(9, _)] rfl ⟨rfl, rfl, rfl, trivial⟩ ⟨rfl, trivial⟩ ?_
  refine code_cond_f rfl ?_
  refine code_skip ?_
  refine seq_pick 36 [(0, _), (5, _)] [(9, _)] rfl ⟨rfl, rfl, trivial⟩ ⟨rfl, trivial⟩ ?_
  refine code_seq ?_
  refine code_seq ?_
  refine code_ops _ rfl ?_
  refine ol_pure rfl rfl rfl (pure_move rfl rfl) ?_
  refine ol_pure rfl rfl rfl (pure_lenm rfl Try.underlying22 rfl) ?_
  refine ol_pure rfl rfl rfl (pure_move rfl rfl) ?_
  refine ol_nil ?_
  refine seq_pick 36 [(0, _), (5, _), (14, _), (15, _), (16, _)] [(9, _)] rfl ⟨rfl, rfl, rfl, rfl, rfl, trivial⟩ ⟨rfl, trivial⟩ ?_
  refine code_block ?_
  refine code_loopM (fun zm zs => ∃ i : Nat, zm = w.length - i ∧ (i ≤ w.length) ∧ zs = ⟨36, [(0, .v .mx (letters a)), (5, .own 9), (14, .own 9), (15, .v .pl (int w.length)), (16, .v .pl (int i))], [(9, .arr 3 ((foldP a (w.take i) ++ w.drop i).map int))]⟩) (loop_init (n := 36) (l := [(0, _), (5, _), (14, _), (15, _), (16, _)]) (o' := [(9, _)]) rfl ⟨rfl, rfl, rfl, rfl, rfl, trivial⟩ ⟨rfl, trivial⟩ ?_) ?_
  · exact ⟨_, 0, rfl, Nat.zero_le _, rfl⟩
  · rintro zm zs ⟨i, rfl, hL1_0, rfl⟩
    refine code_seq ?_
    refine code_ops _ rfl ?_
    refine ol_pure rfl rfl rfl (pure_lss rfl rfl rfl) ?_
    refine ol_nil ?_
    refine seq_pick 36 [(0, _), (5, _), (14, _), (15, _), (16, _), (17, _)] [(9, _)] rfl ⟨rfl, rfl, rfl, rfl, rfl, rfl, trivial⟩ ⟨rfl, trivial⟩ ?_
    refine code_seq ?_
    refine code_cond rfl (fun h1 => ?_) (fun h1 => ?_)
    · try simp only [decide_eq_true_eq, decide_eq_false_iff_not, Bool.not_eq_true', Bool.not_eq_false', Bool.and_eq_true, Bool.or_eq_true, Bool.and_eq_false_iff, List.length_map, Int.toNat_natCast] at h1
      refine code_skip ?_
      refine seq_pick 36 [(0, _), (5, _), (14, _), (15, _), (16, _)] [(9, _)] rfl ⟨rfl, rfl, rfl, rfl, rfl, trivial⟩ ⟨rfl, trivial⟩ ?_
      refine code_seq ?_
      refine code_block ?_
      refine code_seq ?_
      refine code_ops _ rfl ?_
      refine ol_pure rfl rfl rfl (pure_move rfl rfl) ?_
      refine ol_pure rfl rfl rfl (pure_index_own rfl Try.underlying22 sz3 rfl rfl rfl (by simp only [List.length_map, List.length_append, foldP_len, List.length_take, List.length_drop]; omega)) ?_
      refine ol_pure rfl rfl rfl (pure_toi (a' := (w.getD i default)) (pure_load_pel rfl ag3 rfl rfl (mget (by simp only [List.length_append, foldP_len, List.length_take, List.length_drop]; omega)) rfl) (by rw [Int.toNat_natCast, fold_get (by omega)])) ?_
      refine ol_pure rfl rfl rfl (pure_assign rfl rfl) ?_
      refine ol_pure rfl rfl rfl (pure_assign rfl rfl) ?_
      refine ol_nil ?_
      refine seq_pick 36 [(0, _), (5, _), (6, _), (7, _), (14, _), (15, _), (16, _)] [(9, _)] rfl ⟨rfl, rfl, rfl, rfl, rfl, rfl, rfl, trivial⟩ ⟨rfl, trivial⟩ ?_
      refine code_seq ?_
      refine code_ops _ rfl ?_
      refine ol_pure rfl rfl rfl (pure_move rfl rfl) ?_
      refine ol_pure rfl rfl rfl (pure_move rfl rfl) ?_
      refine ol_pure rfl rfl rfl (pure_lenm rfl Try.underlying24 rfl) ?_
      refine ol_pure rfl rfl rfl (pure_subi rfl rfl rfl (by omega)) ?_
      refine ol_pure rfl rfl rfl (pure_call rfl rfl rfl (within_call) hM0) ?_
      refine ol_nil ?_
      refine seq_pick 36 [(0, _), (5, _), (6, _), (7, _), (14, _), (15, _), (16, _), (25, _)] [(9, _)] rfl ⟨rfl, rfl, rfl, rfl, rfl, rfl, rfl, rfl, trivial⟩ ⟨rfl, trivial⟩ ?_
      refine code_cond rfl (fun h2 => ?_) (fun h2 => ?_)
      · try simp only [decide_eq_true_eq, decide_eq_false_iff_not, Bool.not_eq_true', Bool.not_eq_false', Bool.and_eq_true, Bool.or_eq_true, Bool.and_eq_false_iff, List.length_map, Int.toNat_natCast] at h2
        refine code_ops _ rfl ?_
        refine ol_pure rfl rfl rfl (pure_move rfl rfl) ?_
        refine ol_pure rfl rfl rfl (pure_move rfl rfl) ?_
        refine ol_pure rfl rfl rfl (pure_move rfl rfl) ?_
        refine ol_pure rfl rfl rfl (pure_move rfl rfl) ?_
        first | refine ol_pure rfl rfl rfl (pure_indexn rfl Try.underlying24 sz48 rfl rfl (by omega) (fun _ => rfl)) ?_ | refine ol_pure rfl rfl rfl (pure_indexm rfl Try.underlying24 sz48 rfl rfl (by omega) (fun _ => rfl)) ?_
        refine ol_pure rfl rfl rfl (pure_field rfl fd48_1 rfl) ?_
        refine ol_pure rfl rfl rfl (pure_load rfl ag3 rfl rfl) ?_
        refine ol_pure rfl rfl rfl (pure_index_own rfl Try.underlying22 sz3 rfl rfl rfl (by simp only [List.length_map, List.length_append, foldP_len, List.length_take, List.length_drop]; omega)) ?_
        refine ol_step rfl (step_store_pel rfl rfl rfl sz3 rfl rfl (mget (by simp only [List.length_append, foldP_len, List.length_take, List.length_drop]; omega)) rfl rfl (.inl rfl) rfl (Nat.le_of_ble_eq_true rfl) hM0) ?_
        refine ol_nil ?_
        refine blockQ_normal ?_
        refine seq_pick 36 [(0, _), (5, _), (14, _), (15, _), (16, _)] [(9, _)] rfl ⟨rfl, rfl, rfl, rfl, rfl, trivial⟩ ⟨rfl, trivial⟩ ?_
        refine code_ops _ rfl ?_
        refine ol_pure rfl rfl rfl (pure_addi rfl rfl rfl (by omega)) ?_
        refine ol_pure rfl rfl rfl (pure_move rfl rfl) ?_
        refine ol_nil ?_
        refine loop_next (n := 36) (l := [(0, _), (5, _), (14, _), (15, _), (16, _)]) (o' := [(9, _)]) rfl ⟨rfl, rfl, rfl, rfl, rfl, trivial⟩ ⟨rfl, trivial⟩ ?_   -- loop 1 end 1
        refine ⟨_, ⟨i + 1, rfl, by omega, ?_⟩, by omega⟩
        have e := fold_set (a := a) (w := w) (i := i) (by omega) (isL_true (by omega))
        rw [← e, Int.toNat_natCast]; rfl
      · try simp only [decide_eq_true_eq, decide_eq_false_iff_not, Bool.not_eq_true', Bool.not_eq_false', Bool.and_eq_true, Bool.or_eq_true, Bool.and_eq_false_iff, List.length_map, Int.toNat_natCast] at h2
        refine code_skip ?_
        refine blockQ_normal ?_
        refine seq_pick 36 [(0, _), (5, _), (14, _), (15, _), (16, _)] [(9, _)] rfl ⟨rfl, rfl, rfl, rfl, rfl, trivial⟩ ⟨rfl, trivial⟩ ?_
        refine code_ops _ rfl ?_
        refine ol_pure rfl rfl rfl (pure_addi rfl rfl rfl (by omega)) ?_
        refine ol_pure rfl rfl rfl (pure_move rfl rfl) ?_
        refine ol_nil ?_
        refine loop_next (n := 36) (l := [(0, _), (5, _), (14, _), (15, _), (16, _)]) (o' := [(9, _)]) rfl ⟨rfl, rfl, rfl, rfl, rfl, trivial⟩ ⟨rfl, trivial⟩ ?_   -- loop 1 end 2
        refine ⟨_, ⟨i + 1, rfl, by omega, ?_⟩, by omega⟩
        rw [fold_keep (by omega) (isL_false (by omega))]; rfl
    · try simp only [decide_eq_true_eq, decide_eq_false_iff_not, Bool.not_eq_true', Bool.not_eq_false', Bool.and_eq_true, Bool.or_eq_true, Bool.and_eq_false_iff, List.length_map, Int.toNat_natCast] at h1
      refine code_exit ?_
      refine seqQ_exit ?_
      refine loopM_exit ?_
      refine blockQ_same ?_
      refine seq_pick 36 [(5, _)] [(9, _)] rfl ⟨rfl, trivial⟩ ⟨rfl, trivial⟩ ?_
      refine code_seq ?_
      refine code_ops _ rfl ?_
      refine ol_pure rfl rfl rfl (pure_move rfl rfl) ?_
      refine ol_pure rfl rfl rfl (pure_assign rfl rfl) ?_
      refine ol_nil ?_
      refine seq_pick 36 [(4, _)] [(9, _)] rfl ⟨rfl, trivial⟩ ⟨rfl, trivial⟩ ?_
      refine code_ret ?_
      refine end_ret rfl ?_   -- end 1
      rw [show i = w.length by omega, List.take_length, List.drop_length, List.append_nil]
end Go.Proofs.Ytcimmcjnkphagaa
namespace Go.Proofs.Ytcimmcjnkphagaa
open Go.Am Go.Wb
set_option linter.unusedVariables false
set_option linter.unusedSimpArgs false
theorem fn10 : Fn1 Try.prog 10 Try.f10.ntmps 6 (Try.f10.body.getD .skip) := ⟨Try.f10, Try.func10, rfl, rfl, rfl, by kernel_rfl⟩
set_option maxRecDepth 100000 in
set_option maxHeartbeats 8000000 in
theorem levels_law {l m : List Int} {words : List (List Int)} (hl : l.length ≤ 9223372036854775807) (hl64 : I64s l) (hm : m.length ≤ 9223372036854775807) (hw : words.length ≤ 9223372036854775807) (hww : bigL words) :
    CallF Try.prog 10 [ints l, ints m, intss words] (.p (bool true)) := by
  have hLet := letters_call hl hl64
  have hA := lettersP_ok l
  have hA0 := lettersP_len l
  have hV := lettersP_valid l
  generalize lettersP l = A at hLet hA hA0 hV
  obtain ⟨W, hWe⟩ : ∃ W, W = wordsP A m 6 ++ rawP words := ⟨_, rfl⟩
  have hW : shortW W := by rw [hWe]; exact words_short _ _ _ (by decide) _
  have hW1 := hW.1
  have hW2 : W.length ≤ 1099511627776 := by omega
  have hlv : ∀ v : List Int, v.length ≤ 1099511627776 → (level A v 4).length ≤ 1099511627776 := fun v hv => Nat.le_trans (level_length_le _ _ _) hv
  have hbs : ∀ v : List Int, v.length ≤ 1099511627776 → (baseP A v).length ≤ 1099511627776 := fun v hv => by unfold baseP; rw [foldP_len]; exact hlv v hv
  have hSame : ∀ (k : Int) (v w : List Int), 1 ≤ k ∧ k ≤ 4 → v.length ≤ 1099511627776 → w.length ≤ 1099511627776 → CallF Try.prog 25 [letters A, ints v, ints w, int k] (.p (bool (decide (keyP A v k.toNat = keyP A w k.toNat)))) := fun k v w hk hv hw => by
    have h := csame_call (k := k) hA.len hA.txt hv hw
    rw [hV, decide_eq_true hk.1, decide_eq_true hk.2, Bool.true_and, Bool.true_and, Bool.true_and] at h
    exact h
  refine callF_of_code fn10 (Nat.le_of_ble_eq_true rfl) fun w0 M0 hM0 => ?_
  refine code_seq ?_
  refine code_ops _ rfl ?_
  refine ol_pure rfl rfl rfl (pure_assign rfl rfl) ?_
  refine ol_nil ?_
  refine seq_pick 149 [(0, _), (1, _), (2, _)] [] rfl ⟨rfl, rfl, rfl, trivial⟩ trivial ?_
  refine code_seq ?_
  refine code_ops _ rfl ?_
  refine ol_pure rfl rfl rfl (pure_move rfl rfl) ?_
  refine ol_pure rfl rfl rfl (pure_call rfl rfl rfl (hLet) hM0) ?_
  refine ol_pure rfl rfl rfl (pure_assign rfl rfl) ?_
  refine ol_nil ?_
  refine seq_pick 149 [(1, _), (2, _), (7, _)] [] rfl ⟨rfl, rfl, rfl, trivial⟩ trivial ?_
  refine code_seq ?_
  refine code_ops _ rfl ?_
  refine ol_pure rfl rfl rfl (pure_move rfl rfl) ?_
  refine ol_pure rfl rfl rfl (pure_move rfl rfl) ?_
  refine ol_step rfl (step_call_own rfl rfl rfl rfl rfl rfl (words_call hA.len (by omega) hm (by decide)) hM0) ?_
  refine ol_pure rfl rfl rfl (pure_move rfl rfl) ?_
  refine ol_pure rfl rfl rfl (pure_call rfl rfl rfl (raw_call hw hww) hM0) ?_
  refine ol_step rfl (step_append rfl rfl rfl rfl Try.underlying23 el22 rfl rfl hM0 (src_plm rfl (fun _ => rfl)) (by have h1 := hW.1; rw [hWe, List.length_append] at h1; simp only [List.length_map]; omega) (by have h1 := hW.1; rw [hWe, List.length_append] at h1; simp only [List.length_map]; omega)) ?_
  refine ol_pure rfl rfl rfl (pure_assign rfl rfl) ?_
  refine ol_nil ?_
  refine seq_pick 149 [(7, _), (8, _)] [(19, _)] rfl ⟨rfl, rfl, trivial⟩ ⟨rfl, trivial⟩ ?_
  refine code_seq ?_
  refine code_seq ?_
  refine code_frz 149 [(7, _), (8, _)] [] hM0 rfl ⟨.inl rfl, .inr ⟨_, _, rfl, rfl, rfl⟩, trivial⟩ trivial ?_
  rw [← List.map_append, ← hWe]
  refine code_ops _ rfl ?_
  refine ol_pure rfl rfl rfl (pure_assign rfl rfl) ?_
  refine ol_nil ?_
  refine seq_pick 149 [(7, _), (8, _), (9, _)] [] rfl ⟨rfl, rfl, rfl, trivial⟩ trivial ?_
  refine code_block ?_
  refine code_loopM (fun zm zs => ∃ i : Nat, zm = W.length - i ∧ (i ≤ W.length) ∧ zs = ⟨149, [(7, .v .pl (letters A)), (8, .v .pl (intss W)), (9, .v .pl (int i))], []⟩) (loop_init (n := 149) (l := [(7, _), (8, _), (9, _)]) (o' := []) rfl ⟨rfl, rfl, rfl, trivial⟩ trivial ?_) ?_
  · exact ⟨_, 0, rfl, Nat.zero_le _, rfl⟩
  · rintro zm zs ⟨i, rfl, hL1_0, rfl⟩
    refine code_seq ?_
    refine code_seq ?_
    refine code_ops _ rfl ?_
    refine ol_pure rfl rfl rfl (pure_move rfl rfl) ?_
    refine ol_pure rfl rfl rfl (pure_move rfl rfl) ?_
    refine ol_pure rfl rfl rfl (pure_lenm rfl Try.underlying23 rfl) ?_
    refine ol_pure rfl rfl rfl (pure_lss rfl rfl rfl) ?_
    refine ol_nil ?_
    refine seq_pick 149 [(7, _), (8, _), (9, _), (26, _)] [] rfl ⟨rfl, rfl, rfl, rfl, trivial⟩ trivial ?_
    refine code_cond rfl (fun h1 => ?_) (fun h1 => ?_)
    · try simp only [decide_eq_true_eq, decide_eq_false_iff_not, Bool.not_eq_true', Bool.not_eq_false', Bool.and_eq_true, Bool.or_eq_true, Bool.and_eq_false_iff, List.length_map, Int.toNat_natCast] at h1
      refine code_skip ?_
      refine seq_pick 149 [(7, _), (8, _), (9, _)] [] rfl ⟨rfl, rfl, rfl, trivial⟩ trivial ?_
      refine code_seq ?_
      refine code_block ?_
      refine code_seq ?_
      refine code_ops _ rfl ?_
      refine ol_pure rfl rfl rfl (pure_move rfl rfl) ?_
      refine ol_pure rfl rfl rfl (pure_move rfl rfl) ?_
      refine ol_pure rfl rfl rfl (pure_move rfl rfl) ?_
      first | refine ol_pure rfl rfl rfl (pure_indexn (f := ints) (l := W) rfl Try.underlying23 sz22 rfl rfl (by omega) (fun _ => rfl)) ?_ | refine ol_pure rfl rfl rfl (pure_indexm (f := ints) (l := W) rfl Try.underlying23 sz22 rfl rfl (by omega) (fun _ => rfl)) ?_
      refine ol_pure rfl rfl rfl (pure_load rfl ag22 rfl rfl) ?_
      refine ol_pure rfl rfl rfl (pure_call rfl rfl rfl (level_call hA.len (hW.get i)) hM0) ?_
      refine ol_pure rfl rfl rfl (pure_assign rfl rfl) ?_
      refine ol_nil ?_
      refine seq_pick 149 [(7, _), (8, _), (9, _), (10, _)] [] rfl ⟨rfl, rfl, rfl, rfl, trivial⟩ trivial ?_
      refine code_seq ?_
      refine code_ops _ rfl ?_
      refine ol_pure rfl rfl rfl (pure_move rfl rfl) ?_
      refine ol_pure rfl rfl rfl (pure_move rfl rfl) ?_
      refine ol_pure rfl rfl rfl (pure_call rfl rfl rfl (fold_call (w := level A (W.getD i default) 4) hA hV (hlv _ (hW.get i))) hM0) ?_
      refine ol_pure rfl rfl rfl (pure_assign rfl rfl) ?_
      refine ol_nil ?_
      refine seq_pick 149 [(7, _), (8, _), (9, _), (11, _)] [] rfl ⟨rfl, rfl, rfl, rfl, trivial⟩ trivial ?_
      refine code_seq ?_
      refine code_seq ?_
      refine code_ops _ rfl ?_
      refine ol_pure rfl rfl rfl (pure_move rfl rfl) ?_
      refine ol_pure rfl rfl rfl (pure_move rfl rfl) ?_
      refine ol_pure rfl rfl rfl (pure_move rfl rfl) ?_
      first | refine ol_pure rfl rfl rfl (pure_indexn (f := ints) (l := W) rfl Try.underlying23 sz22 rfl rfl (by omega) (fun _ => rfl)) ?_ | refine ol_pure rfl rfl rfl (pure_indexm (f := ints) (l := W) rfl Try.underlying23 sz22 rfl rfl (by omega) (fun _ => rfl)) ?_
      refine ol_pure rfl rfl rfl (pure_load rfl ag22 rfl rfl) ?_
      refine ol_pure rfl rfl rfl (pure_move rfl rfl) ?_
      refine ol_pure rfl rfl rfl (pure_callb (b' := true) rfl rfl rfl (hSame 1 (W.getD i default) (baseP A (W.getD i default)) (by decide) (hW.get i) (hbs _ (hW.get i))) hM0 (decide_eq_true (same1_base hV _))) ?_
      refine ol_pick 149 [(7, _), (8, _), (9, _), (11, _), (44, _)] [] rfl ⟨rfl, rfl, rfl, rfl, rfl, trivial⟩ trivial ?_
      refine ol_pure rfl rfl rfl (pure_not rfl rfl) ?_
      refine ol_pure rfl rfl rfl (pure_move rfl rfl) ?_
      refine ol_pure_g rfl rfl rfl rfl rfl (pure_move rfl rfl) ?_
      refine ol_pure_g rfl rfl rfl rfl rfl (pure_move rfl rfl) ?_
      refine ol_pure_g rfl rfl rfl rfl rfl (pure_move rfl rfl) ?_
      refine ol_pure_g rfl rfl rfl rfl rfl (pure_move rfl rfl) ?_
      first | refine ol_pure_g rfl rfl rfl rfl rfl (pure_indexn (f := ints) (l := W) rfl Try.underlying23 sz22 rfl rfl (by omega) (fun _ => rfl)) ?_ | refine ol_pure_g rfl rfl rfl rfl rfl (pure_indexm (f := ints) (l := W) rfl Try.underlying23 sz22 rfl rfl (by omega) (fun _ => rfl)) ?_
      refine ol_pick 149 [(7, _), (8, _), (9, _), (11, _), (46, _), (47, _), (48, _), (51, _)] [] rfl ⟨rfl, rfl, rfl, rfl, rfl, rfl, rfl, rfl, trivial⟩ trivial ?_
      refine ol_pure_g rfl rfl rfl rfl rfl (pure_load rfl ag22 rfl rfl) ?_
      refine ol_pure_g rfl rfl rfl rfl rfl (pure_call rfl rfl rfl (ccompare_call (v := baseP A (W.getD i default)) hA.len hA.txt (hbs _ (hW.get i)) (hW.get i)) hM0) ?_
      refine ol_pure_g rfl rfl rfl rfl rfl (pure_gtr rfl rfl rfl) ?_
      refine ol_pure_g rfl rfl rfl rfl rfl (pure_move rfl rfl) ?_
      refine ol_guard rfl (fun h2 => ?_) (fun h2 => ?_)
      · have h2' := h2; try simp only [decide_eq_true_eq, decide_eq_false_iff_not, Bool.not_eq_true', Bool.not_eq_false', Bool.and_eq_true, Bool.or_eq_true, Bool.and_eq_false_iff, List.length_map, Int.toNat_natCast] at h2'
        refine ol_pure_g rfl rfl h2 rfl rfl (pure_move rfl rfl) ?_
        refine ol_pure_g rfl rfl h2 rfl rfl (pure_move rfl rfl) ?_
        refine ol_pure_g rfl rfl h2 rfl rfl (pure_move rfl rfl) ?_
        refine ol_pick 149 [(7, _), (8, _), (9, _), (11, _), (46, _), (55, _), (56, _), (57, _), (58, _)] [] rfl ⟨rfl, rfl, rfl, rfl, rfl, rfl, rfl, rfl, rfl, trivial⟩ trivial ?_
        refine ol_pure_g rfl rfl h2 rfl rfl (pure_move rfl rfl) ?_
        first | refine ol_pure_g rfl rfl h2 rfl rfl (pure_indexn (f := ints) (l := W) rfl Try.underlying23 sz22 rfl rfl (by omega) (fun _ => rfl)) ?_ | refine ol_pure_g rfl rfl h2 rfl rfl (pure_indexm (f := ints) (l := W) rfl Try.underlying23 sz22 rfl rfl (by omega) (fun _ => rfl)) ?_
        refine ol_pure_g rfl rfl h2 rfl rfl (pure_load rfl ag22 rfl rfl) ?_
        refine ol_pure_g rfl rfl h2 rfl rfl (pure_callb (b' := true) rfl rfl rfl (hSame 3 (baseP A (W.getD i default)) (W.getD i default) (by decide) (hbs _ (hW.get i)) (hW.get i)) hM0 (decide_eq_true (base_less hV _ (by assumption)))) ?_
        refine ol_pure_g rfl rfl h2 rfl rfl (pure_not rfl rfl) ?_
        refine ol_pure_g rfl rfl rfl rfl rfl (pure_pick_t rfl rfl h2 rfl) ?_
        refine ol_pure rfl rfl rfl (pure_pick_f rfl rfl rfl rfl) ?_
        refine ol_nil ?_
        refine seq_pick 149 [(7, _), (8, _), (9, _), (11, _), (65, _)] [] rfl ⟨rfl, rfl, rfl, rfl, rfl, trivial⟩ trivial ?_
        refine code_cond_f rfl ?_
        refine code_skip ?_
        refine seq_pick 149 [(7, _), (8, _), (9, _), (11, _)] [] rfl ⟨rfl, rfl, rfl, rfl, trivial⟩ trivial ?_
        refine code_seq ?_
        refine code_ops _ rfl ?_
        refine ol_pure rfl rfl rfl (pure_assign rfl rfl) ?_
        refine ol_nil ?_
        refine seq_pick 149 [(7, _), (8, _), (9, _), (11, _), (12, _)] [] rfl ⟨rfl, rfl, rfl, rfl, rfl, trivial⟩ trivial ?_
        refine code_block ?_
        refine code_loopM (fun zm zs => ∃ j : Nat, zm = W.length - j ∧ (j ≤ W.length) ∧ zs = ⟨149, [(7, .v .pl (letters A)), (8, .v .pl (intss W)), (9, .v .pl (int i)), (11, .v .pl (ints (baseP A (W.getD i default)))), (12, .v .pl (int j))], []⟩) (loop_init (n := 149) (l := [(7, _), (8, _), (9, _), (11, _), (12, _)]) (o' := []) rfl ⟨rfl, rfl, rfl, rfl, rfl, trivial⟩ trivial ?_) ?_
        · exact ⟨_, 0, rfl, Nat.zero_le _, rfl⟩
        · rintro zm zs ⟨j, rfl, hL2_0, rfl⟩
          refine code_seq ?_
          refine code_seq ?_
          refine code_ops _ rfl ?_
          refine ol_pure rfl rfl rfl (pure_move rfl rfl) ?_
          refine ol_pure rfl rfl rfl (pure_move rfl rfl) ?_
          refine ol_pure rfl rfl rfl (pure_lenm rfl Try.underlying23 rfl) ?_
          refine ol_pure rfl rfl rfl (pure_lss rfl rfl rfl) ?_
          refine ol_nil ?_
          refine seq_pick 149 [(7, _), (8, _), (9, _), (11, _), (12, _), (69, _)] [] rfl ⟨rfl, rfl, rfl, rfl, rfl, rfl, trivial⟩ trivial ?_
          refine code_cond rfl (fun h3 => ?_) (fun h3 => ?_)
          · try simp only [decide_eq_true_eq, decide_eq_false_iff_not, Bool.not_eq_true', Bool.not_eq_false', Bool.and_eq_true, Bool.or_eq_true, Bool.and_eq_false_iff, List.length_map, Int.toNat_natCast] at h3
            refine code_skip ?_
            refine seq_pick 149 [(7, _), (8, _), (9, _), (11, _), (12, _)] [] rfl ⟨rfl, rfl, rfl, rfl, rfl, trivial⟩ trivial ?_
            refine code_seq ?_
            refine code_block ?_
            refine code_seq ?_
            refine code_ops _ rfl ?_
            refine ol_pure rfl rfl rfl (pure_move rfl rfl) ?_
            refine ol_pure rfl rfl rfl (pure_move rfl rfl) ?_
            refine ol_pure rfl rfl rfl (pure_move rfl rfl) ?_
            first | refine ol_pure rfl rfl rfl (pure_indexn (f := ints) (l := W) rfl Try.underlying23 sz22 rfl rfl (by omega) (fun _ => rfl)) ?_ | refine ol_pure rfl rfl rfl (pure_indexm (f := ints) (l := W) rfl Try.underlying23 sz22 rfl rfl (by omega) (fun _ => rfl)) ?_
            refine ol_pure rfl rfl rfl (pure_load rfl ag22 rfl rfl) ?_
            refine ol_pure rfl rfl rfl (pure_call rfl rfl rfl (level_call hA.len (hW.get j)) hM0) ?_
            refine ol_pure rfl rfl rfl (pure_assign rfl rfl) ?_
            refine ol_nil ?_
            refine seq_pick 149 [(7, _), (8, _), (9, _), (11, _), (12, _), (13, _)] [] rfl ⟨rfl, rfl, rfl, rfl, rfl, rfl, trivial⟩ trivial ?_
            refine code_seq ?_
            refine code_seq ?_
            refine code_draw mixed (by kernel_rfl) _ rfl ?_
            refine dl_pure rfl rfl rfl (pure_move rfl rfl) ?_
            refine dl_pure rfl rfl rfl (pure_move rfl rfl) ?_
            refine dl_pure rfl rfl rfl (pure_move rfl rfl) ?_
            first | refine dl_pure rfl rfl rfl (pure_indexn (f := ints) (l := W) rfl Try.underlying23 sz22 rfl rfl (by omega) (fun _ => rfl)) ?_ | refine dl_pure rfl rfl rfl (pure_indexm (f := ints) (l := W) rfl Try.underlying23 sz22 rfl rfl (by omega) (fun _ => rfl)) ?_
            refine dl_pure rfl rfl rfl (pure_load rfl ag22 rfl rfl) ?_
            refine dl_pure rfl rfl rfl (pure_move rfl rfl) ?_
            refine dl_pure rfl rfl rfl (pure_move rfl rfl) ?_
            refine dl_pick 149 [(7, _), (8, _), (9, _), (11, _), (12, _), (13, _), (78, _), (82, _), (83, _), (84, _)] [] rfl rfl ⟨rfl, rfl, rfl, rfl, rfl, rfl, rfl, rfl, rfl, rfl, trivial⟩ ?_
            first | refine dl_pure rfl rfl rfl (pure_indexn (f := ints) (l := W) rfl Try.underlying23 sz22 rfl rfl (by omega) (fun _ => rfl)) ?_ | refine dl_pure rfl rfl rfl (pure_indexm (f := ints) (l := W) rfl Try.underlying23 sz22 rfl rfl (by omega) (fun _ => rfl)) ?_
            refine dl_pure rfl rfl rfl (pure_load rfl ag22 rfl rfl) ?_
            refine dl_pure rfl rfl rfl (pure_call rfl rfl rfl (hSame 1 (W.getD i default) (W.getD j default) (by decide) (hW.get i) (hW.get j)) hM0) ?_
            refine dl_pure rfl rfl rfl (pure_move rfl rfl) ?_
            refine dl_pure rfl rfl rfl (pure_move rfl rfl) ?_
            refine dl_pure rfl rfl rfl (pure_move rfl rfl) ?_
            refine dl_pure rfl rfl rfl (pure_call rfl rfl rfl (fold_call (w := level A (W.getD j default) 4) hA hV (hlv _ (hW.get j))) hM0) ?_
            refine dl_pick 149 [(7, _), (8, _), (9, _), (11, _), (12, _), (87, _), (88, _), (91, _)] [] rfl rfl ⟨rfl, rfl, rfl, rfl, rfl, rfl, rfl, rfl, trivial⟩ ?_
            refine dl_pure rfl rfl rfl (pure_call rfl rfl rfl (same_call (a := baseP A (W.getD i default)) (b := baseP A (W.getD j default)) (Nat.le_trans (hbs _ (hW.get i)) (by decide))) hM0) ?_
            refine dl_pure rfl rfl rfl (pure_to (b' := false) (pure_bne Try.underlying4 rfl rfl rfl) (by have h : decide (keyP A (W.getD i default) (1 : Int).toNat = keyP A (W.getD j default) (1 : Int).toNat) = decide (baseP A (W.getD i default) = baseP A (W.getD j default)) := decide_eq_decide.2 (same1_iff A (W.getD i default) (W.getD j default)); rw [h]; simp)) ?_
            refine dl_pure rfl rfl rfl (pure_move rfl rfl) ?_
            refine dl_pure_g rfl rfl rfl rfl rfl (pure_move rfl rfl) ?_
            refine dl_pure_g rfl rfl rfl rfl rfl (pure_move rfl rfl) ?_
            refine dl_pure_g rfl rfl rfl rfl rfl (pure_move rfl rfl) ?_
            first | refine dl_pure_g rfl rfl rfl rfl rfl (pure_indexn (f := ints) (l := W) rfl Try.underlying23 sz22 rfl rfl (by omega) (fun _ => rfl)) ?_ | refine dl_pure_g rfl rfl rfl rfl rfl (pure_indexm (f := ints) (l := W) rfl Try.underlying23 sz22 rfl rfl (by omega) (fun _ => rfl)) ?_
            refine dl_pick 149 [(7, _), (8, _), (9, _), (11, _), (12, _), (94, _), (95, _), (98, _)] [] rfl rfl ⟨rfl, rfl, rfl, rfl, rfl, rfl, rfl, rfl, trivial⟩ ?_
            refine dl_pure_g rfl rfl rfl rfl rfl (pure_load rfl ag22 rfl rfl) ?_
            refine dl_pure_g rfl rfl rfl rfl rfl (pure_move rfl rfl) ?_
            refine dl_pure_g rfl rfl rfl rfl rfl (pure_move rfl rfl) ?_
            first | refine dl_pure_g rfl rfl rfl rfl rfl (pure_indexn (f := ints) (l := W) rfl Try.underlying23 sz22 rfl rfl (by omega) (fun _ => rfl)) ?_ | refine dl_pure_g rfl rfl rfl rfl rfl (pure_indexm (f := ints) (l := W) rfl Try.underlying23 sz22 rfl rfl (by omega) (fun _ => rfl)) ?_
            refine dl_pure_g rfl rfl rfl rfl rfl (pure_load rfl ag22 rfl rfl) ?_
            refine dl_pure_g rfl rfl rfl rfl rfl (pure_call rfl rfl rfl (hSame 4 (W.getD i default) (W.getD j default) (by decide) (hW.get i) (hW.get j)) hM0) ?_
            refine dl_pure_g rfl rfl rfl rfl rfl (pure_move rfl rfl) ?_
            refine dl_pick 149 [(7, _), (8, _), (9, _), (11, _), (12, _), (94, _), (104, _), (105, _)] [] rfl rfl ⟨rfl, rfl, rfl, rfl, rfl, rfl, rfl, rfl, trivial⟩ ?_
            refine dl_pure_g rfl rfl rfl rfl rfl (pure_move rfl rfl) ?_
            refine dl_pure_g rfl rfl rfl rfl rfl (pure_move rfl rfl) ?_
            first | refine dl_pure_g rfl rfl rfl rfl rfl (pure_indexn (f := ints) (l := W) rfl Try.underlying23 sz22 rfl rfl (by omega) (fun _ => rfl)) ?_ | refine dl_pure_g rfl rfl rfl rfl rfl (pure_indexm (f := ints) (l := W) rfl Try.underlying23 sz22 rfl rfl (by omega) (fun _ => rfl)) ?_
            refine dl_pure_g rfl rfl rfl rfl rfl (pure_load rfl ag22 rfl rfl) ?_
            refine dl_pure_g rfl rfl rfl rfl rfl (pure_move rfl rfl) ?_
            refine dl_pure_g rfl rfl rfl rfl rfl (pure_move rfl rfl) ?_
            first | refine dl_pure_g rfl rfl rfl rfl rfl (pure_indexn (f := ints) (l := W) rfl Try.underlying23 sz22 rfl rfl (by omega) (fun _ => rfl)) ?_ | refine dl_pure_g rfl rfl rfl rfl rfl (pure_indexm (f := ints) (l := W) rfl Try.underlying23 sz22 rfl rfl (by omega) (fun _ => rfl)) ?_
            refine dl_pick 149 [(7, _), (8, _), (9, _), (11, _), (12, _), (94, _), (104, _), (105, _), (109, _), (112, _)] [] rfl rfl ⟨rfl, rfl, rfl, rfl, rfl, rfl, rfl, rfl, rfl, rfl, trivial⟩ ?_
            refine dl_pure_g rfl rfl rfl rfl rfl (pure_load rfl ag22 rfl rfl) ?_
            refine dl_pure_g rfl rfl rfl rfl rfl (pure_call rfl rfl rfl (ccompare_call hA.len hA.txt (hW.get i) (hW.get j)) hM0) ?_
            refine dl_pure_g rfl rfl rfl rfl rfl (pure_eql rfl rfl rfl) ?_
            refine dl_pure_g rfl rfl rfl rfl rfl (pure_to (b' := false) (pure_bne Try.underlying4 rfl rfl rfl) (by have h : decide (keyP A (W.getD i default) (4 : Int).toNat = keyP A (W.getD j default) (4 : Int).toNat) = decide (order (keyC A (W.getD i default)) (keyC A (W.getD j default)) = 0) := decide_eq_decide.2 (same4_iff hV (W.getD i default) (W.getD j default)); rw [h]; simp)) ?_
            refine dl_pure rfl rfl rfl (pure_pick_f rfl rfl rfl rfl) ?_
            refine dl_nil ?_
            refine seq_pick 149 [(7, _), (8, _), (9, _), (11, _), (12, _), (117, _)] [] rfl ⟨rfl, rfl, rfl, rfl, rfl, rfl, trivial⟩ trivial ?_
            refine code_cond_f rfl ?_
            refine code_skip ?_
            refine seq_pick 149 [(7, _), (8, _), (9, _), (11, _), (12, _)] [] rfl ⟨rfl, rfl, rfl, rfl, rfl, trivial⟩ trivial ?_
            refine code_seq ?_
            refine code_ops _ rfl ?_
            refine ol_pure rfl rfl rfl (pure_assign rfl rfl) ?_
            refine ol_nil ?_
            refine seq_pick 149 [(7, _), (8, _), (9, _), (11, _), (12, _), (14, _)] [] rfl ⟨rfl, rfl, rfl, rfl, rfl, rfl, trivial⟩ trivial ?_
            refine code_block ?_
            refine code_loopM (fun zm zs => ∃ n : Nat, zm = 5 - n ∧ (2 ≤ n ∧ n ≤ 5) ∧ zs = ⟨149, [(7, .v .pl (letters A)), (8, .v .pl (intss W)), (9, .v .pl (int i)), (11, .v .pl (ints (baseP A (W.getD i default)))), (12, .v .pl (int j)), (14, .v .pl (int n))], []⟩) (loop_init (n := 149) (l := [(7, _), (8, _), (9, _), (11, _), (12, _), (14, _)]) (o' := []) rfl ⟨rfl, rfl, rfl, rfl, rfl, rfl, trivial⟩ trivial ?_) ?_
            · exact ⟨_, 2, rfl, by decide, rfl⟩
            · rintro zm zs ⟨n, rfl, hL3_0, rfl⟩
              refine code_seq ?_
              refine code_seq ?_
              refine code_ops _ rfl ?_
              refine ol_pure rfl rfl rfl (pure_move rfl rfl) ?_
              refine ol_pure rfl rfl rfl (pure_leq rfl rfl rfl) ?_
              refine ol_nil ?_
              refine seq_pick 149 [(7, _), (8, _), (9, _), (11, _), (12, _), (14, _), (119, _)] [] rfl ⟨rfl, rfl, rfl, rfl, rfl, rfl, rfl, trivial⟩ trivial ?_
              refine code_cond rfl (fun h4 => ?_) (fun h4 => ?_)
              · try simp only [decide_eq_true_eq, decide_eq_false_iff_not, Bool.not_eq_true', Bool.not_eq_false', Bool.and_eq_true, Bool.or_eq_true, Bool.and_eq_false_iff, List.length_map, Int.toNat_natCast] at h4
                refine code_skip ?_
                refine seq_pick 149 [(7, _), (8, _), (9, _), (11, _), (12, _), (14, _)] [] rfl ⟨rfl, rfl, rfl, rfl, rfl, rfl, trivial⟩ trivial ?_
                refine code_seq ?_
                refine code_block ?_
                refine code_seq ?_
                refine code_draw mixed (by kernel_rfl) _ rfl ?_
                refine dl_pure rfl rfl rfl (pure_move rfl rfl) ?_
                refine dl_pure rfl rfl rfl (pure_move rfl rfl) ?_
                refine dl_pure rfl rfl rfl (pure_move rfl rfl) ?_
                first | refine dl_pure rfl rfl rfl (pure_indexn (f := ints) (l := W) rfl Try.underlying23 sz22 rfl rfl (by omega) (fun _ => rfl)) ?_ | refine dl_pure rfl rfl rfl (pure_indexm (f := ints) (l := W) rfl Try.underlying23 sz22 rfl rfl (by omega) (fun _ => rfl)) ?_
                refine dl_pure rfl rfl rfl (pure_load rfl ag22 rfl rfl) ?_
                refine dl_pure rfl rfl rfl (pure_move rfl rfl) ?_
                refine dl_pure rfl rfl rfl (pure_move rfl rfl) ?_
                refine dl_pick 149 [(7, _), (8, _), (9, _), (11, _), (12, _), (14, _), (122, _), (126, _), (127, _), (128, _)] [] rfl rfl ⟨rfl, rfl, rfl, rfl, rfl, rfl, rfl, rfl, rfl, rfl, trivial⟩ ?_
                first | refine dl_pure rfl rfl rfl (pure_indexn (f := ints) (l := W) rfl Try.underlying23 sz22 rfl rfl (by omega) (fun _ => rfl)) ?_ | refine dl_pure rfl rfl rfl (pure_indexm (f := ints) (l := W) rfl Try.underlying23 sz22 rfl rfl (by omega) (fun _ => rfl)) ?_
                refine dl_pure rfl rfl rfl (pure_load rfl ag22 rfl rfl) ?_
                refine dl_pure rfl rfl rfl (pure_move rfl rfl) ?_
                refine dl_pure rfl rfl rfl (pure_call rfl rfl rfl (hSame n (W.getD i default) (W.getD j default) (by omega) (hW.get i) (hW.get j)) hM0) ?_
                refine dl_pure rfl rfl rfl (pure_move rfl rfl) ?_
                refine dl_guard rfl (fun h5 => ?_) (fun h5 => ?_)
                · have h5' := h5; try simp only [decide_eq_true_eq, decide_eq_false_iff_not, Bool.not_eq_true', Bool.not_eq_false', Bool.and_eq_true, Bool.or_eq_true, Bool.and_eq_false_iff, List.length_map, Int.toNat_natCast] at h5'
                  refine dl_pure_g rfl rfl h5 rfl rfl (pure_move rfl rfl) ?_
                  refine dl_pure_g rfl rfl h5 rfl rfl (pure_move rfl rfl) ?_
                  refine dl_pick 149 [(7, _), (8, _), (9, _), (11, _), (12, _), (14, _), (133, _), (134, _), (135, _)] [] rfl rfl ⟨rfl, rfl, rfl, rfl, rfl, rfl, rfl, rfl, rfl, trivial⟩ ?_
                  refine dl_pure_g rfl rfl h5 rfl rfl (pure_move rfl rfl) ?_
                  first | refine dl_pure_g rfl rfl h5 rfl rfl (pure_indexn (f := ints) (l := W) rfl Try.underlying23 sz22 rfl rfl (by omega) (fun _ => rfl)) ?_ | refine dl_pure_g rfl rfl h5 rfl rfl (pure_indexm (f := ints) (l := W) rfl Try.underlying23 sz22 rfl rfl (by omega) (fun _ => rfl)) ?_
                  refine dl_pure_g rfl rfl h5 rfl rfl (pure_load rfl ag22 rfl rfl) ?_
                  refine dl_pure_g rfl rfl h5 rfl rfl (pure_move rfl rfl) ?_
                  refine dl_pure_g rfl rfl h5 rfl rfl (pure_move rfl rfl) ?_
                  first | refine dl_pure_g rfl rfl h5 rfl rfl (pure_indexn (f := ints) (l := W) rfl Try.underlying23 sz22 rfl rfl (by omega) (fun _ => rfl)) ?_ | refine dl_pure_g rfl rfl h5 rfl rfl (pure_indexm (f := ints) (l := W) rfl Try.underlying23 sz22 rfl rfl (by omega) (fun _ => rfl)) ?_
                  refine dl_pure_g rfl rfl h5 rfl rfl (pure_load rfl ag22 rfl rfl) ?_
                  refine dl_pick 149 [(7, _), (8, _), (9, _), (11, _), (12, _), (14, _), (133, _), (134, _), (138, _), (142, _)] [] rfl rfl ⟨rfl, rfl, rfl, rfl, rfl, rfl, rfl, rfl, rfl, rfl, trivial⟩ ?_
                  refine dl_pure_g rfl rfl h5 rfl rfl (pure_move rfl rfl) ?_
                  refine dl_pure_g rfl rfl h5 rfl rfl (pure_subi rfl rfl rfl (by omega)) ?_
                  refine dl_pure_g rfl rfl h5 rfl rfl (pure_callb (b' := true) rfl rfl rfl (hSame ((n : Int) - 1) (W.getD i default) (W.getD j default) (by omega) (hW.get i) (hW.get j)) hM0 (decide_eq_true (by rw [show ((n : Int) - 1).toNat = n - 1 by omega]; exact same_down hV (by omega) (by assumption)))) ?_
                  refine dl_pure_g rfl rfl h5 rfl rfl (pure_not rfl rfl) ?_
                  refine dl_pure rfl rfl rfl (pure_pick_t rfl rfl h5 rfl) ?_
                  refine dl_nil ?_
                  refine seq_pick 149 [(7, _), (8, _), (9, _), (11, _), (12, _), (14, _), (147, _)] [] rfl ⟨rfl, rfl, rfl, rfl, rfl, rfl, rfl, trivial⟩ trivial ?_
                  refine code_cond_f rfl ?_
                  refine code_skip ?_
                  refine blockQ_normal ?_
                  refine seq_pick 149 [(7, _), (8, _), (9, _), (11, _), (12, _), (14, _)] [] rfl ⟨rfl, rfl, rfl, rfl, rfl, rfl, trivial⟩ trivial ?_
                  refine code_ops _ rfl ?_
                  refine ol_pure rfl rfl rfl (pure_move rfl rfl) ?_
                  refine ol_pure rfl rfl rfl (pure_addi rfl rfl rfl (by omega)) ?_
                  refine ol_pure rfl rfl rfl (pure_assign rfl rfl) ?_
                  refine ol_nil ?_
                  refine loop_next (n := 149) (l := [(7, _), (8, _), (9, _), (11, _), (12, _), (14, _)]) (o' := []) rfl ⟨rfl, rfl, rfl, rfl, rfl, rfl, trivial⟩ trivial ?_   -- loop 3 end 1
                  exact ⟨_, ⟨n + 1, rfl, by omega, rfl⟩, by omega⟩
                · have h5' := h5; try simp only [decide_eq_true_eq, decide_eq_false_iff_not, Bool.not_eq_true', Bool.not_eq_false', Bool.and_eq_true, Bool.or_eq_true, Bool.and_eq_false_iff, List.length_map, Int.toNat_natCast] at h5'
                  refine dl_skip_g rfl rfl h5 rfl rfl ?_
                  refine dl_skip_g rfl rfl h5 rfl rfl ?_
                  refine dl_pick 149 [(7, _), (8, _), (9, _), (11, _), (12, _), (14, _), (133, _), (134, _), (135, _)] [] rfl rfl ⟨rfl, rfl, rfl, rfl, rfl, rfl, rfl, rfl, rfl, trivial⟩ ?_
                  refine dl_skip_g rfl rfl h5 rfl rfl ?_
                  refine dl_skip_g rfl rfl h5 rfl rfl ?_
                  refine dl_skip_g rfl rfl h5 rfl rfl ?_
                  refine dl_skip_g rfl rfl h5 rfl rfl ?_
                  refine dl_skip_g rfl rfl h5 rfl rfl ?_
                  refine dl_skip_g rfl rfl h5 rfl rfl ?_
                  refine dl_skip_g rfl rfl h5 rfl rfl ?_
                  refine dl_pick 149 [(7, _), (8, _), (9, _), (11, _), (12, _), (14, _), (133, _), (134, _), (138, _), (142, _)] [] rfl rfl ⟨rfl, rfl, rfl, rfl, rfl, rfl, rfl, rfl, rfl, rfl, trivial⟩ ?_
                  refine dl_skip_g rfl rfl h5 rfl rfl ?_
                  refine dl_skip_g rfl rfl h5 rfl rfl ?_
                  refine dl_skip_g rfl rfl h5 rfl rfl ?_
                  refine dl_skip_g rfl rfl h5 rfl rfl ?_
                  refine dl_pure rfl rfl rfl (pure_pick_f rfl rfl h5 rfl) ?_
                  refine dl_nil ?_
                  refine seq_pick 149 [(7, _), (8, _), (9, _), (11, _), (12, _), (14, _), (147, _)] [] rfl ⟨rfl, rfl, rfl, rfl, rfl, rfl, rfl, trivial⟩ trivial ?_
                  refine code_cond_f rfl ?_
                  refine code_skip ?_
                  refine blockQ_normal ?_
                  refine seq_pick 149 [(7, _), (8, _), (9, _), (11, _), (12, _), (14, _)] [] rfl ⟨rfl, rfl, rfl, rfl, rfl, rfl, trivial⟩ trivial ?_
                  refine code_ops _ rfl ?_
                  refine ol_pure rfl rfl rfl (pure_move rfl rfl) ?_
                  refine ol_pure rfl rfl rfl (pure_addi rfl rfl rfl (by omega)) ?_
                  refine ol_pure rfl rfl rfl (pure_assign rfl rfl) ?_
                  refine ol_nil ?_
                  refine loop_next (n := 149) (l := [(7, _), (8, _), (9, _), (11, _), (12, _), (14, _)]) (o' := []) rfl ⟨rfl, rfl, rfl, rfl, rfl, rfl, trivial⟩ trivial ?_   -- loop 3 end 2
                  exact ⟨_, ⟨n + 1, rfl, by omega, rfl⟩, by omega⟩
              · try simp only [decide_eq_true_eq, decide_eq_false_iff_not, Bool.not_eq_true', Bool.not_eq_false', Bool.and_eq_true, Bool.or_eq_true, Bool.and_eq_false_iff, List.length_map, Int.toNat_natCast] at h4
                refine code_exit ?_
                refine seqQ_exit ?_
                refine loopM_exit ?_
                refine blockQ_same ?_
                refine blockQ_normal ?_
                refine seq_pick 149 [(7, _), (8, _), (9, _), (11, _), (12, _)] [] rfl ⟨rfl, rfl, rfl, rfl, rfl, trivial⟩ trivial ?_
                refine code_ops _ rfl ?_
                refine ol_pure rfl rfl rfl (pure_move rfl rfl) ?_
                refine ol_pure rfl rfl rfl (pure_addi rfl rfl rfl (by omega)) ?_
                refine ol_pure rfl rfl rfl (pure_assign rfl rfl) ?_
                refine ol_nil ?_
                refine loop_next (n := 149) (l := [(7, _), (8, _), (9, _), (11, _), (12, _)]) (o' := []) rfl ⟨rfl, rfl, rfl, rfl, rfl, trivial⟩ trivial ?_   -- loop 2 end 1
                exact ⟨_, ⟨j + 1, rfl, by omega, rfl⟩, by omega⟩
          · try simp only [decide_eq_true_eq, decide_eq_false_iff_not, Bool.not_eq_true', Bool.not_eq_false', Bool.and_eq_true, Bool.or_eq_true, Bool.and_eq_false_iff, List.length_map, Int.toNat_natCast] at h3
            refine code_exit ?_
            refine seqQ_exit ?_
            refine loopM_exit ?_
            refine blockQ_same ?_
            refine blockQ_normal ?_
            refine seq_pick 149 [(7, _), (8, _), (9, _)] [] rfl ⟨rfl, rfl, rfl, trivial⟩ trivial ?_
            refine code_ops _ rfl ?_
            refine ol_pure rfl rfl rfl (pure_move rfl rfl) ?_
            refine ol_pure rfl rfl rfl (pure_addi rfl rfl rfl (by omega)) ?_
            refine ol_pure rfl rfl rfl (pure_assign rfl rfl) ?_
            refine ol_nil ?_
            refine loop_next (n := 149) (l := [(7, _), (8, _), (9, _)]) (o' := []) rfl ⟨rfl, rfl, rfl, trivial⟩ trivial ?_   -- loop 1 end 1
            exact ⟨_, ⟨i + 1, rfl, by omega, rfl⟩, by omega⟩
      · have h2' := h2; try simp only [decide_eq_true_eq, decide_eq_false_iff_not, Bool.not_eq_true', Bool.not_eq_false', Bool.and_eq_true, Bool.or_eq_true, Bool.and_eq_false_iff, List.length_map, Int.toNat_natCast] at h2'
        refine ol_skip_g rfl rfl h2 rfl rfl ?_
        refine ol_skip_g rfl rfl h2 rfl rfl ?_
        refine ol_skip_g rfl rfl h2 rfl rfl ?_
        refine ol_pick 149 [(7, _), (8, _), (9, _), (11, _), (46, _), (55, _), (56, _), (57, _), (58, _)] [] rfl ⟨rfl, rfl, rfl, rfl, rfl, rfl, rfl, rfl, rfl, trivial⟩ trivial ?_
        refine ol_skip_g rfl rfl h2 rfl rfl ?_
        refine ol_skip_g rfl rfl h2 rfl rfl ?_
        refine ol_skip_g rfl rfl h2 rfl rfl ?_
        refine ol_skip_g rfl rfl h2 rfl rfl ?_
        refine ol_skip_g rfl rfl h2 rfl rfl ?_
        refine ol_pure_g rfl rfl rfl rfl rfl (pure_pick_f rfl rfl h2 rfl) ?_
        refine ol_pure rfl rfl rfl (pure_pick_f rfl rfl rfl rfl) ?_
        refine ol_nil ?_
        refine seq_pick 149 [(7, _), (8, _), (9, _), (11, _), (65, _)] [] rfl ⟨rfl, rfl, rfl, rfl, rfl, trivial⟩ trivial ?_
        refine code_cond_f rfl ?_
        refine code_skip ?_
        refine seq_pick 149 [(7, _), (8, _), (9, _), (11, _)] [] rfl ⟨rfl, rfl, rfl, rfl, trivial⟩ trivial ?_
        refine code_seq ?_
        refine code_ops _ rfl ?_
        refine ol_pure rfl rfl rfl (pure_assign rfl rfl) ?_
        refine ol_nil ?_
        refine seq_pick 149 [(7, _), (8, _), (9, _), (11, _), (12, _)] [] rfl ⟨rfl, rfl, rfl, rfl, rfl, trivial⟩ trivial ?_
        refine code_block ?_
        refine code_loopM (fun zm zs => ∃ j : Nat, zm = W.length - j ∧ (j ≤ W.length) ∧ zs = ⟨149, [(7, .v .pl (letters A)), (8, .v .pl (intss W)), (9, .v .pl (int i)), (11, .v .pl (ints (baseP A (W.getD i default)))), (12, .v .pl (int j))], []⟩) (loop_init (n := 149) (l := [(7, _), (8, _), (9, _), (11, _), (12, _)]) (o' := []) rfl ⟨rfl, rfl, rfl, rfl, rfl, trivial⟩ trivial ?_) ?_
        · exact ⟨_, 0, rfl, Nat.zero_le _, rfl⟩
        · rintro zm zs ⟨j, rfl, hL2_0, rfl⟩
          refine code_seq ?_
          refine code_seq ?_
          refine code_ops _ rfl ?_
          refine ol_pure rfl rfl rfl (pure_move rfl rfl) ?_
          refine ol_pure rfl rfl rfl (pure_move rfl rfl) ?_
          refine ol_pure rfl rfl rfl (pure_lenm rfl Try.underlying23 rfl) ?_
          refine ol_pure rfl rfl rfl (pure_lss rfl rfl rfl) ?_
          refine ol_nil ?_
          refine seq_pick 149 [(7, _), (8, _), (9, _), (11, _), (12, _), (69, _)] [] rfl ⟨rfl, rfl, rfl, rfl, rfl, rfl, trivial⟩ trivial ?_
          refine code_cond rfl (fun h6 => ?_) (fun h6 => ?_)
          · try simp only [decide_eq_true_eq, decide_eq_false_iff_not, Bool.not_eq_true', Bool.not_eq_false', Bool.and_eq_true, Bool.or_eq_true, Bool.and_eq_false_iff, List.length_map, Int.toNat_natCast] at h6
            refine code_skip ?_
            refine seq_pick 149 [(7, _), (8, _), (9, _), (11, _), (12, _)] [] rfl ⟨rfl, rfl, rfl, rfl, rfl, trivial⟩ trivial ?_
            refine code_seq ?_
            refine code_block ?_
            refine code_seq ?_
            refine code_ops _ rfl ?_
            refine ol_pure rfl rfl rfl (pure_move rfl rfl) ?_
            refine ol_pure rfl rfl rfl (pure_move rfl rfl) ?_
            refine ol_pure rfl rfl rfl (pure_move rfl rfl) ?_
            first | refine ol_pure rfl rfl rfl (pure_indexn (f := ints) (l := W) rfl Try.underlying23 sz22 rfl rfl (by omega) (fun _ => rfl)) ?_ | refine ol_pure rfl rfl rfl (pure_indexm (f := ints) (l := W) rfl Try.underlying23 sz22 rfl rfl (by omega) (fun _ => rfl)) ?_
            refine ol_pure rfl rfl rfl (pure_load rfl ag22 rfl rfl) ?_
            refine ol_pure rfl rfl rfl (pure_call rfl rfl rfl (level_call hA.len (hW.get j)) hM0) ?_
            refine ol_pure rfl rfl rfl (pure_assign rfl rfl) ?_
            refine ol_nil ?_
            refine seq_pick 149 [(7, _), (8, _), (9, _), (11, _), (12, _), (13, _)] [] rfl ⟨rfl, rfl, rfl, rfl, rfl, rfl, trivial⟩ trivial ?_
            refine code_seq ?_
            refine code_seq ?_
            refine code_draw mixed (by kernel_rfl) _ rfl ?_
            refine dl_pure rfl rfl rfl (pure_move rfl rfl) ?_
            refine dl_pure rfl rfl rfl (pure_move rfl rfl) ?_
            refine dl_pure rfl rfl rfl (pure_move rfl rfl) ?_
            first | refine dl_pure rfl rfl rfl (pure_indexn (f := ints) (l := W) rfl Try.underlying23 sz22 rfl rfl (by omega) (fun _ => rfl)) ?_ | refine dl_pure rfl rfl rfl (pure_indexm (f := ints) (l := W) rfl Try.underlying23 sz22 rfl rfl (by omega) (fun _ => rfl)) ?_
            refine dl_pure rfl rfl rfl (pure_load rfl ag22 rfl rfl) ?_
            refine dl_pure rfl rfl rfl (pure_move rfl rfl) ?_
            refine dl_pure rfl rfl rfl (pure_move rfl rfl) ?_
            refine dl_pick 149 [(7, _), (8, _), (9, _), (11, _), (12, _), (13, _), (78, _), (82, _), (83, _), (84, _)] [] rfl rfl ⟨rfl, rfl, rfl, rfl, rfl, rfl, rfl, rfl, rfl, rfl, trivial⟩ ?_
            first | refine dl_pure rfl rfl rfl (pure_indexn (f := ints) (l := W) rfl Try.underlying23 sz22 rfl rfl (by omega) (fun _ => rfl)) ?_ | refine dl_pure rfl rfl rfl (pure_indexm (f := ints) (l := W) rfl Try.underlying23 sz22 rfl rfl (by omega) (fun _ => rfl)) ?_
            refine dl_pure rfl rfl rfl (pure_load rfl ag22 rfl rfl) ?_
            refine dl_pure rfl rfl rfl (pure_call rfl rfl rfl (hSame 1 (W.getD i default) (W.getD j default) (by decide) (hW.get i) (hW.get j)) hM0) ?_
            refine dl_pure rfl rfl rfl (pure_move rfl rfl) ?_
            refine dl_pure rfl rfl rfl (pure_move rfl rfl) ?_
            refine dl_pure rfl rfl rfl (pure_move rfl rfl) ?_
            refine dl_pure rfl rfl rfl (pure_call rfl rfl rfl (fold_call (w := level A (W.getD j default) 4) hA hV (hlv _ (hW.get j))) hM0) ?_
            refine dl_pick 149 [(7, _), (8, _), (9, _), (11, _), (12, _), (87, _), (88, _), (91, _)] [] rfl rfl ⟨rfl, rfl, rfl, rfl, rfl, rfl, rfl, rfl, trivial⟩ ?_
            refine dl_pure rfl rfl rfl (pure_call rfl rfl rfl (same_call (a := baseP A (W.getD i default)) (b := baseP A (W.getD j default)) (Nat.le_trans (hbs _ (hW.get i)) (by decide))) hM0) ?_
            refine dl_pure rfl rfl rfl (pure_to (b' := false) (pure_bne Try.underlying4 rfl rfl rfl) (by have h : decide (keyP A (W.getD i default) (1 : Int).toNat = keyP A (W.getD j default) (1 : Int).toNat) = decide (baseP A (W.getD i default) = baseP A (W.getD j default)) := decide_eq_decide.2 (same1_iff A (W.getD i default) (W.getD j default)); rw [h]; simp)) ?_
            refine dl_pure rfl rfl rfl (pure_move rfl rfl) ?_
            refine dl_pure_g rfl rfl rfl rfl rfl (pure_move rfl rfl) ?_
            refine dl_pure_g rfl rfl rfl rfl rfl (pure_move rfl rfl) ?_
            refine dl_pure_g rfl rfl rfl rfl rfl (pure_move rfl rfl) ?_
            first | refine dl_pure_g rfl rfl rfl rfl rfl (pure_indexn (f := ints) (l := W) rfl Try.underlying23 sz22 rfl rfl (by omega) (fun _ => rfl)) ?_ | refine dl_pure_g rfl rfl rfl rfl rfl (pure_indexm (f := ints) (l := W) rfl Try.underlying23 sz22 rfl rfl (by omega) (fun _ => rfl)) ?_
            refine dl_pick 149 [(7, _), (8, _), (9, _), (11, _), (12, _), (94, _), (95, _), (98, _)] [] rfl rfl ⟨rfl, rfl, rfl, rfl, rfl, rfl, rfl, rfl, trivial⟩ ?_
            refine dl_pure_g rfl rfl rfl rfl rfl (pure_load rfl ag22 rfl rfl) ?_
            refine dl_pure_g rfl rfl rfl rfl rfl (pure_move rfl rfl) ?_
            refine dl_pure_g rfl rfl rfl rfl rfl (pure_move rfl rfl) ?_
            first | refine dl_pure_g rfl rfl rfl rfl rfl (pure_indexn (f := ints) (l := W) rfl Try.underlying23 sz22 rfl rfl (by omega) (fun _ => rfl)) ?_ | refine dl_pure_g rfl rfl rfl rfl rfl (pure_indexm (f := ints) (l := W) rfl Try.underlying23 sz22 rfl rfl (by omega) (fun _ => rfl)) ?_
            refine dl_pure_g rfl rfl rfl rfl rfl (pure_load rfl ag22 rfl rfl) ?_
            refine dl_pure_g rfl rfl rfl rfl rfl (pure_call rfl rfl rfl (hSame 4 (W.getD i default) (W.getD j default) (by decide) (hW.get i) (hW.get j)) hM0) ?_
            refine dl_pure_g rfl rfl rfl rfl rfl (pure_move rfl rfl) ?_
            refine dl_pick 149 [(7, _), (8, _), (9, _), (11, _), (12, _), (94, _), (104, _), (105, _)] [] rfl rfl ⟨rfl, rfl, rfl, rfl, rfl, rfl, rfl, rfl, trivial⟩ ?_
            refine dl_pure_g rfl rfl rfl rfl rfl (pure_move rfl rfl) ?_
            refine dl_pure_g rfl rfl rfl rfl rfl (pure_move rfl rfl) ?_
            first | refine dl_pure_g rfl rfl rfl rfl rfl (pure_indexn (f := ints) (l := W) rfl Try.underlying23 sz22 rfl rfl (by omega) (fun _ => rfl)) ?_ | refine dl_pure_g rfl rfl rfl rfl rfl (pure_indexm (f := ints) (l := W) rfl Try.underlying23 sz22 rfl rfl (by omega) (fun _ => rfl)) ?_
            refine dl_pure_g rfl rfl rfl rfl rfl (pure_load rfl ag22 rfl rfl) ?_
            refine dl_pure_g rfl rfl rfl rfl rfl (pure_move rfl rfl) ?_
            refine dl_pure_g rfl rfl rfl rfl rfl (pure_move rfl rfl) ?_
            first | refine dl_pure_g rfl rfl rfl rfl rfl (pure_indexn (f := ints) (l := W) rfl Try.underlying23 sz22 rfl rfl (by omega) (fun _ => rfl)) ?_ | refine dl_pure_g rfl rfl rfl rfl rfl (pure_indexm (f := ints) (l := W) rfl Try.underlying23 sz22 rfl rfl (by omega) (fun _ => rfl)) ?_
            refine dl_pick 149 [(7, _), (8, _), (9, _), (11, _), (12, _), (94, _), (104, _), (105, _), (109, _), (112, _)] [] rfl rfl ⟨rfl, rfl, rfl, rfl, rfl, rfl, rfl, rfl, rfl, rfl, trivial⟩ ?_
            refine dl_pure_g rfl rfl rfl rfl rfl (pure_load rfl ag22 rfl rfl) ?_
            refine dl_pure_g rfl rfl rfl rfl rfl (pure_call rfl rfl rfl (ccompare_call hA.len hA.txt (hW.get i) (hW.get j)) hM0) ?_
            refine dl_pure_g rfl rfl rfl rfl rfl (pure_eql rfl rfl rfl) ?_
            refine dl_pure_g rfl rfl rfl rfl rfl (pure_to (b' := false) (pure_bne Try.underlying4 rfl rfl rfl) (by have h : decide (keyP A (W.getD i default) (4 : Int).toNat = keyP A (W.getD j default) (4 : Int).toNat) = decide (order (keyC A (W.getD i default)) (keyC A (W.getD j default)) = 0) := decide_eq_decide.2 (same4_iff hV (W.getD i default) (W.getD j default)); rw [h]; simp)) ?_
            refine dl_pure rfl rfl rfl (pure_pick_f rfl rfl rfl rfl) ?_
            refine dl_nil ?_
            refine seq_pick 149 [(7, _), (8, _), (9, _), (11, _), (12, _), (117, _)] [] rfl ⟨rfl, rfl, rfl, rfl, rfl, rfl, trivial⟩ trivial ?_
            refine code_cond_f rfl ?_
            refine code_skip ?_
            refine seq_pick 149 [(7, _), (8, _), (9, _), (11, _), (12, _)] [] rfl ⟨rfl, rfl, rfl, rfl, rfl, trivial⟩ trivial ?_
            refine code_seq ?_
            refine code_ops _ rfl ?_
            refine ol_pure rfl rfl rfl (pure_assign rfl rfl) ?_
            refine ol_nil ?_
            refine seq_pick 149 [(7, _), (8, _), (9, _), (11, _), (12, _), (14, _)] [] rfl ⟨rfl, rfl, rfl, rfl, rfl, rfl, trivial⟩ trivial ?_
            refine code_block ?_
            refine code_loopM (fun zm zs => ∃ n : Nat, zm = 5 - n ∧ (2 ≤ n ∧ n ≤ 5) ∧ zs = ⟨149, [(7, .v .pl (letters A)), (8, .v .pl (intss W)), (9, .v .pl (int i)), (11, .v .pl (ints (baseP A (W.getD i default)))), (12, .v .pl (int j)), (14, .v .pl (int n))], []⟩) (loop_init (n := 149) (l := [(7, _), (8, _), (9, _), (11, _), (12, _), (14, _)]) (o' := []) rfl ⟨rfl, rfl, rfl, rfl, rfl, rfl, trivial⟩ trivial ?_) ?_
            · exact ⟨_, 2, rfl, by decide, rfl⟩
            · rintro zm zs ⟨n, rfl, hL3_0, rfl⟩
              refine code_seq ?_
              refine code_seq ?_
              refine code_ops _ rfl ?_
              refine ol_pure rfl rfl rfl (pure_move rfl rfl) ?_
              refine ol_pure rfl rfl rfl (pure_leq rfl rfl rfl) ?_
              refine ol_nil ?_
              refine seq_pick 149 [(7, _), (8, _), (9, _), (11, _), (12, _), (14, _), (119, _)] [] rfl ⟨rfl, rfl, rfl, rfl, rfl, rfl, rfl, trivial⟩ trivial ?_
              refine code_cond rfl (fun h7 => ?_) (fun h7 => ?_)
              · try simp only [decide_eq_true_eq, decide_eq_false_iff_not, Bool.not_eq_true', Bool.not_eq_false', Bool.and_eq_true, Bool.or_eq_true, Bool.and_eq_false_iff, List.length_map, Int.toNat_natCast] at h7
                refine code_skip ?_
                refine seq_pick 149 [(7, _), (8, _), (9, _), (11, _), (12, _), (14, _)] [] rfl ⟨rfl, rfl, rfl, rfl, rfl, rfl, trivial⟩ trivial ?_
                refine code_seq ?_
                refine code_block ?_
                refine code_seq ?_
                refine code_draw mixed (by kernel_rfl) _ rfl ?_
                refine dl_pure rfl rfl rfl (pure_move rfl rfl) ?_
                refine dl_pure rfl rfl rfl (pure_move rfl rfl) ?_
                refine dl_pure rfl rfl rfl (pure_move rfl rfl) ?_
                first | refine dl_pure rfl rfl rfl (pure_indexn (f := ints) (l := W) rfl Try.underlying23 sz22 rfl rfl (by omega) (fun _ => rfl)) ?_ | refine dl_pure rfl rfl rfl (pure_indexm (f := ints) (l := W) rfl Try.underlying23 sz22 rfl rfl (by omega) (fun _ => rfl)) ?_
                refine dl_pure rfl rfl rfl (pure_load rfl ag22 rfl rfl) ?_
                refine dl_pure rfl rfl rfl (pure_move rfl rfl) ?_
                refine dl_pure rfl rfl rfl (pure_move rfl rfl) ?_
                refine dl_pick 149 [(7, _), (8, _), (9, _), (11, _), (12, _), (14, _), (122, _), (126, _), (127, _), (128, _)] [] rfl rfl ⟨rfl, rfl, rfl, rfl, rfl, rfl, rfl, rfl, rfl, rfl, trivial⟩ ?_
                first | refine dl_pure rfl rfl rfl (pure_indexn (f := ints) (l := W) rfl Try.underlying23 sz22 rfl rfl (by omega) (fun _ => rfl)) ?_ | refine dl_pure rfl rfl rfl (pure_indexm (f := ints) (l := W) rfl Try.underlying23 sz22 rfl rfl (by omega) (fun _ => rfl)) ?_
                refine dl_pure rfl rfl rfl (pure_load rfl ag22 rfl rfl) ?_
                refine dl_pure rfl rfl rfl (pure_move rfl rfl) ?_
                refine dl_pure rfl rfl rfl (pure_call rfl rfl rfl (hSame n (W.getD i default) (W.getD j default) (by omega) (hW.get i) (hW.get j)) hM0) ?_
                refine dl_pure rfl rfl rfl (pure_move rfl rfl) ?_
                refine dl_guard rfl (fun h8 => ?_) (fun h8 => ?_)
                · have h8' := h8; try simp only [decide_eq_true_eq, decide_eq_false_iff_not, Bool.not_eq_true', Bool.not_eq_false', Bool.and_eq_true, Bool.or_eq_true, Bool.and_eq_false_iff, List.length_map, Int.toNat_natCast] at h8'
                  refine dl_pure_g rfl rfl h8 rfl rfl (pure_move rfl rfl) ?_
                  refine dl_pure_g rfl rfl h8 rfl rfl (pure_move rfl rfl) ?_
                  refine dl_pick 149 [(7, _), (8, _), (9, _), (11, _), (12, _), (14, _), (133, _), (134, _), (135, _)] [] rfl rfl ⟨rfl, rfl, rfl, rfl, rfl, rfl, rfl, rfl, rfl, trivial⟩ ?_
                  refine dl_pure_g rfl rfl h8 rfl rfl (pure_move rfl rfl) ?_
                  first | refine dl_pure_g rfl rfl h8 rfl rfl (pure_indexn (f := ints) (l := W) rfl Try.underlying23 sz22 rfl rfl (by omega) (fun _ => rfl)) ?_ | refine dl_pure_g rfl rfl h8 rfl rfl (pure_indexm (f := ints) (l := W) rfl Try.underlying23 sz22 rfl rfl (by omega) (fun _ => rfl)) ?_
                  refine dl_pure_g rfl rfl h8 rfl rfl (pure_load rfl ag22 rfl rfl) ?_
                  refine dl_pure_g rfl rfl h8 rfl rfl (pure_move rfl rfl) ?_
                  refine dl_pure_g rfl rfl h8 rfl rfl (pure_move rfl rfl) ?_
                  first | refine dl_pure_g rfl rfl h8 rfl rfl (pure_indexn (f := ints) (l := W) rfl Try.underlying23 sz22 rfl rfl (by omega) (fun _ => rfl)) ?_ | refine dl_pure_g rfl rfl h8 rfl rfl (pure_indexm (f := ints) (l := W) rfl Try.underlying23 sz22 rfl rfl (by omega) (fun _ => rfl)) ?_
                  refine dl_pure_g rfl rfl h8 rfl rfl (pure_load rfl ag22 rfl rfl) ?_
                  refine dl_pick 149 [(7, _), (8, _), (9, _), (11, _), (12, _), (14, _), (133, _), (134, _), (138, _), (142, _)] [] rfl rfl ⟨rfl, rfl, rfl, rfl, rfl, rfl, rfl, rfl, rfl, rfl, trivial⟩ ?_
                  refine dl_pure_g rfl rfl h8 rfl rfl (pure_move rfl rfl) ?_
                  refine dl_pure_g rfl rfl h8 rfl rfl (pure_subi rfl rfl rfl (by omega)) ?_
                  refine dl_pure_g rfl rfl h8 rfl rfl (pure_callb (b' := true) rfl rfl rfl (hSame ((n : Int) - 1) (W.getD i default) (W.getD j default) (by omega) (hW.get i) (hW.get j)) hM0 (decide_eq_true (by rw [show ((n : Int) - 1).toNat = n - 1 by omega]; exact same_down hV (by omega) (by assumption)))) ?_
                  refine dl_pure_g rfl rfl h8 rfl rfl (pure_not rfl rfl) ?_
                  refine dl_pure rfl rfl rfl (pure_pick_t rfl rfl h8 rfl) ?_
                  refine dl_nil ?_
                  refine seq_pick 149 [(7, _), (8, _), (9, _), (11, _), (12, _), (14, _), (147, _)] [] rfl ⟨rfl, rfl, rfl, rfl, rfl, rfl, rfl, trivial⟩ trivial ?_
                  refine code_cond_f rfl ?_
                  refine code_skip ?_
                  refine blockQ_normal ?_
                  refine seq_pick 149 [(7, _), (8, _), (9, _), (11, _), (12, _), (14, _)] [] rfl ⟨rfl, rfl, rfl, rfl, rfl, rfl, trivial⟩ trivial ?_
                  refine code_ops _ rfl ?_
                  refine ol_pure rfl rfl rfl (pure_move rfl rfl) ?_
                  refine ol_pure rfl rfl rfl (pure_addi rfl rfl rfl (by omega)) ?_
                  refine ol_pure rfl rfl rfl (pure_assign rfl rfl) ?_
                  refine ol_nil ?_
                  refine loop_next (n := 149) (l := [(7, _), (8, _), (9, _), (11, _), (12, _), (14, _)]) (o' := []) rfl ⟨rfl, rfl, rfl, rfl, rfl, rfl, trivial⟩ trivial ?_   -- loop 3 end 3
                  exact ⟨_, ⟨n + 1, rfl, by omega, rfl⟩, by omega⟩
                · have h8' := h8; try simp only [decide_eq_true_eq, decide_eq_false_iff_not, Bool.not_eq_true', Bool.not_eq_false', Bool.and_eq_true, Bool.or_eq_true, Bool.and_eq_false_iff, List.length_map, Int.toNat_natCast] at h8'
                  refine dl_skip_g rfl rfl h8 rfl rfl ?_
                  refine dl_skip_g rfl rfl h8 rfl rfl ?_
                  refine dl_pick 149 [(7, _), (8, _), (9, _), (11, _), (12, _), (14, _), (133, _), (134, _), (135, _)] [] rfl rfl ⟨rfl, rfl, rfl, rfl, rfl, rfl, rfl, rfl, rfl, trivial⟩ ?_
                  refine dl_skip_g rfl rfl h8 rfl rfl ?_
                  refine dl_skip_g rfl rfl h8 rfl rfl ?_
                  refine dl_skip_g rfl rfl h8 rfl rfl ?_
                  refine dl_skip_g rfl rfl h8 rfl rfl ?_
                  refine dl_skip_g rfl rfl h8 rfl rfl ?_
                  refine dl_skip_g rfl rfl h8 rfl rfl ?_
                  refine dl_skip_g rfl rfl h8 rfl rfl ?_
                  refine dl_pick 149 [(7, _), (8, _), (9, _), (11, _), (12, _), (14, _), (133, _), (134, _), (138, _), (142, _)] [] rfl rfl ⟨rfl, rfl, rfl, rfl, rfl, rfl, rfl, rfl, rfl, rfl, trivial⟩ ?_
                  refine dl_skip_g rfl rfl h8 rfl rfl ?_
                  refine dl_skip_g rfl rfl h8 rfl rfl ?_
                  refine dl_skip_g rfl rfl h8 rfl rfl ?_
                  refine dl_skip_g rfl rfl h8 rfl rfl ?_
                  refine dl_pure rfl rfl rfl (pure_pick_f rfl rfl h8 rfl) ?_
                  refine dl_nil ?_
                  refine seq_pick 149 [(7, _), (8, _), (9, _), (11, _), (12, _), (14, _), (147, _)] [] rfl ⟨rfl, rfl, rfl, rfl, rfl, rfl, rfl, trivial⟩ trivial ?_
                  refine code_cond_f rfl ?_
                  refine code_skip ?_
                  refine blockQ_normal ?_
                  refine seq_pick 149 [(7, _), (8, _), (9, _), (11, _), (12, _), (14, _)] [] rfl ⟨rfl, rfl, rfl, rfl, rfl, rfl, trivial⟩ trivial ?_
                  refine code_ops _ rfl ?_
                  refine ol_pure rfl rfl rfl (pure_move rfl rfl) ?_
                  refine ol_pure rfl rfl rfl (pure_addi rfl rfl rfl (by omega)) ?_
                  refine ol_pure rfl rfl rfl (pure_assign rfl rfl) ?_
                  refine ol_nil ?_
                  refine loop_next (n := 149) (l := [(7, _), (8, _), (9, _), (11, _), (12, _), (14, _)]) (o' := []) rfl ⟨rfl, rfl, rfl, rfl, rfl, rfl, trivial⟩ trivial ?_   -- loop 3 end 4
                  exact ⟨_, ⟨n + 1, rfl, by omega, rfl⟩, by omega⟩
              · try simp only [decide_eq_true_eq, decide_eq_false_iff_not, Bool.not_eq_true', Bool.not_eq_false', Bool.and_eq_true, Bool.or_eq_true, Bool.and_eq_false_iff, List.length_map, Int.toNat_natCast] at h7
                refine code_exit ?_
                refine seqQ_exit ?_
                refine loopM_exit ?_
                refine blockQ_same ?_
                refine blockQ_normal ?_
                refine seq_pick 149 [(7, _), (8, _), (9, _), (11, _), (12, _)] [] rfl ⟨rfl, rfl, rfl, rfl, rfl, trivial⟩ trivial ?_
                refine code_ops _ rfl ?_
                refine ol_pure rfl rfl rfl (pure_move rfl rfl) ?_
                refine ol_pure rfl rfl rfl (pure_addi rfl rfl rfl (by omega)) ?_
                refine ol_pure rfl rfl rfl (pure_assign rfl rfl) ?_
                refine ol_nil ?_
                refine loop_next (n := 149) (l := [(7, _), (8, _), (9, _), (11, _), (12, _)]) (o' := []) rfl ⟨rfl, rfl, rfl, rfl, rfl, trivial⟩ trivial ?_   -- loop 2 end 2
                exact ⟨_, ⟨j + 1, rfl, by omega, rfl⟩, by omega⟩
          · try simp only [decide_eq_true_eq, decide_eq_false_iff_not, Bool.not_eq_true', Bool.not_eq_false', Bool.and_eq_true, Bool.or_eq_true, Bool.and_eq_false_iff, List.length_map, Int.toNat_natCast] at h6
            refine code_exit ?_
            refine seqQ_exit ?_
            refine loopM_exit ?_
            refine blockQ_same ?_
            refine blockQ_normal ?_
            refine seq_pick 149 [(7, _), (8, _), (9, _)] [] rfl ⟨rfl, rfl, rfl, trivial⟩ trivial ?_
            refine code_ops _ rfl ?_
            refine ol_pure rfl rfl rfl (pure_move rfl rfl) ?_
            refine ol_pure rfl rfl rfl (pure_addi rfl rfl rfl (by omega)) ?_
            refine ol_pure rfl rfl rfl (pure_assign rfl rfl) ?_
            refine ol_nil ?_
            refine loop_next (n := 149) (l := [(7, _), (8, _), (9, _)]) (o' := []) rfl ⟨rfl, rfl, rfl, trivial⟩ trivial ?_   -- loop 1 end 2
            exact ⟨_, ⟨i + 1, rfl, by omega, rfl⟩, by omega⟩
    · try simp only [decide_eq_true_eq, decide_eq_false_iff_not, Bool.not_eq_true', Bool.not_eq_false', Bool.and_eq_true, Bool.or_eq_true, Bool.and_eq_false_iff, List.length_map, Int.toNat_natCast] at h1
      refine code_exit ?_
      refine seqQ_exit ?_
      refine loopM_exit ?_
      refine blockQ_same ?_
      refine seq_pick 149 [] [] rfl trivial trivial ?_
      refine code_seq ?_
      refine code_ops _ rfl ?_
      refine ol_pure rfl rfl rfl (pure_call rfl rfl rfl (lives_call) hM0) ?_
      refine ol_pure rfl rfl rfl (pure_assign rfl rfl) ?_
      refine ol_nil ?_
      refine seq_pick 149 [(6, _)] [] rfl ⟨rfl, trivial⟩ trivial ?_
      refine code_ret ?_
      refine end_ret rfl ?_   -- end 1
      rfl
/-! The statement CollateLevelsSaid. -/
namespace collateLevels
open Go.ChangeShapes Go.WideShapes Go.ChangeAt Go.RowKit Go.Am
theorem own : ownKnob Try.prog.godebug = none := by kernel_rfl
set_option maxRecDepth 100000 in
theorem lifted (os : Os) (started : os.Started) (H : Type) (enc : TypeId × Value → H) :
    ReturnsInHanded {} Try.checked os 10 .any (Rows.collateLevelsSpec.pre6 enc Try.prog Try.f10 Rows.collateLevelsRow.domain false) (Rows.collateLevelsSpec.post enc Try.prog Try.f10 false true false false) := by
  refine returnsInHanded_of_change (C := Try.checked) own started (by kernel_rfl) Try.func10
    (ChangeSpec.witness6 (enc := enc) (C := Try.checked) false ⟨#[], #[.slice none 0 0, .slice none 0 0, .slice none 0 0], []⟩ 8 (by kernel_rfl) (by kernel_rfl) (by kernel_rfl) (by kernel_rfl)) ?_
  intro W base args ds gs before hval0 hW hcnd _
  have hval : ∀ (j : Nat) t v, Try.f10.params[j]? = some t → args[j]? = some v → Value.okWide Try.prog W .any base t v := hval0
  have hW' := hW
  obtain ⟨p, q, hA0, hV, rfl, hfz, hnd⟩ := hW
  have hA : DataW.TrodAll enc Try.prog W 0 (fun _ => true) true Try.f10.params.toList args.toList ds p := hA0
  rw [Try.params10] at hA hval
  obtain ⟨v0, vs0, d0, ds0, p0, q0, hargs, rfl, rfl, h0, r0⟩ := trodAll_cons hA
  obtain ⟨v1, vs1, d1, ds1, p1, q1, rfl, rfl, rfl, h1, r1⟩ := trodAll_cons r0
  obtain ⟨v2, vs2, d2, ds2, p2, q2, rfl, rfl, rfl, h2, r2⟩ := trodAll_cons r1
  obtain ⟨rfl, rfl, rfl⟩ := trodAll_nil r2
  obtain rfl : args = #[v0, v1, v2] := by cases args; simp_all
  obtain ⟨x0, y0, z0, e0⟩ := open_intsA Try.underlying22 Try.underlying3 sz3 (hval 0 22 v0 rfl rfl) h0
  obtain ⟨x1, y1, z1, e1⟩ := open_intsA Try.underlying22 Try.underlying3 sz3 (hval 1 22 v1 rfl rfl) h1
  obtain ⟨x2, y2, z2, e2⟩ := open_intssA Try.underlying23 Try.underlying22 Try.underlying3 sz22 sz3 (hval 2 23 v2 rfl rfl) h2
  have hcall := (levels_law z0 y0 z1 z2 (fun y hy => (y2 y hy).2)).use (w := W) (vs := [v0, v1, v2]) ⟨e0, e1, e2, trivial⟩
  exact law_post (tb := 4) (by kernel_rfl) (by kernel_rfl) (by kernel_rfl) Try.underlying4 rfl rfl hW' hcall
theorem over : Rows.collateLevelsRow.holds Try.pinned (OpenSpec.ofChange Rows.collateLevelsSpec) :=
  OpenClaim.holds_of_wide 10 Try.f10 rfl rfl rfl rfl rfl rfl rfl ⟨rfl, rfl, rfl, rfl, rfl⟩ rfl rfl rfl rfl rfl (by kernel_rfl) Try.func10 (by kernel_rfl)
    (of_decide_eq_true (by kernel_rfl)) (by unfold Func.isWrapper; first | (rw [if_pos (by decide +kernel)]; kernel_rfl) | (rw [if_neg (by decide +kernel)]; exact ⟨rfl, rfl⟩))
    (fun os started H enc _ => lifted os started H enc)
end collateLevels
theorem collateLevels_holds : Rows.CollateLevelsSaid := collateLevels.over
end Go.Proofs.Ytcimmcjnkphagaa
