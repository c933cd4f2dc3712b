/-
  The law CollateBytes holds: for every input it returns true, and its arguments read as before.
-/
import Derived.Test.YtcimmcjnkphagaaAm19
import Derived.Scope
import Derived.Control
import Derived.Lib.SliceRun
import Derived.Test.YtcimmcjnkphagaaPp
import Derived.Test.YtcimmcjnkphagaaCk
import Derived.Test.YtcimmcjnkphagaaCa
import Derived.Test.YtcimmcjnkphagaaCr
import Derived.Test.YtcimmcjnkphagaaCl
import Derived.Test.YtcimmcjnkphagaaCm
namespace Go.Am
open Go.RowKit
set_option linter.unusedVariables false
section
variable {P : Program} {w0 : World} {M0 : Nat → Prop} {s s' : St}
def scopeQ (Q : Exit → St → Prop) : Exit → St → Prop
  | .goto _, _ => False
  | e, s => Q e s
theorem scopeQ_normal {Q : Exit → St → Prop} (h : Q .normal s) : scopeQ Q .normal s := h
theorem scopeQ_ret {Q : Exit → St → Prop} (h : Q .ret s) : scopeQ Q .ret s := h
theorem scopeQ_exit {Q : Exit → St → Prop} {i : Nat} (h : Q (.exit i) s) : scopeQ Q (.exit i) s := h
theorem code_scope {c : Code} {Q : Exit → St → Prop} (h : CodeOk P w0 M0 c s (scopeQ Q)) : CodeOk P w0 M0 (.scope c) s Q := by
  intro a w hs
  refine wp_scope_straight (wp_mono (h a w hs) fun e a' w' ⟨s', h1, h2⟩ => ?_)
  cases e <;> first | exact h1.elim | exact ⟨s', h1, h2⟩
theorem code_label {l : Nat} {Q : Exit → St → Prop} (h : Q .normal s) : CodeOk P w0 M0 (.label l) s Q := fun a w hs => wp_label ⟨s, h, hs⟩
section ops
variable {o : Oper} {ρ : Operand → Option SV} {ob : List (Nat × Ob)} {x y z : Operand} {T T' e : TypeId} {k q : IntKind} {a b : Int} {c : Cls}
theorem pure_shr (ho : o.op = .binOp .shr T x y T') (hx : scal ρ x = some (.int k a)) (hy : scal ρ y = some (.int q b)) (hb : 0 ≤ b) : Pure P w0 M0 o ρ ob (.v .pl (.sc (.int k (a.fdiv (2 ^ (min b.toNat k.bits)))))) :=
  pure_bin ho hx hy rfl rfl (fun w => by simp only [binOp_shr, Op.shift, if_neg (show ¬ b < 0 by omega), Sem.run_pure])
theorem pure_shl (ho : o.op = .binOp .shl T x y T') (hx : scal ρ x = some (.int k a)) (hy : scal ρ y = some (.int q b)) (hb : 0 ≤ b) : Pure P w0 M0 o ρ ob (.v .pl (.sc (.int k (k.wrap (a * 2 ^ (min b.toNat k.bits)))))) :=
  pure_bin ho hx hy rfl rfl (fun w => by simp only [binOp_shl, Op.shift, if_neg (show ¬ b < 0 by omega), Sem.run_pure])
theorem pure_xor (ho : o.op = .binOp .xor T x y T') (hx : scal ρ x = some (.int k a)) (hy : scal ρ y = some (.int k b)) : Pure P w0 M0 o ρ ob (.v .pl (.sc (.int k (k.wrap ((BitVec.ofInt k.bits a ^^^ BitVec.ofInt k.bits b).toNat : Nat))))) :=
  pure_bin ho hx hy rfl rfl (fun w => by simp only [binOp_xor, Op.intBits, Sem.run_pure])
/-- A number, known. -/
theorem pure_toi {c : Cls} {a a' : Int} (h : Pure P w0 M0 o ρ ob (.v c (.sc (.int k a)))) (e : a = a') : Pure P w0 M0 o ρ ob (.v c (.sc (.int k a'))) := by
  subst e; exact h
theorem xor0 {a : Int} (h : 0 ≤ a ∧ a < 256) : IntKind.u8.wrap ((BitVec.ofInt IntKind.u8.bits a ^^^ BitVec.ofInt IntKind.u8.bits 0).toNat : Nat) = a := by
  show IntKind.u8.wrap ((BitVec.ofInt 8 a ^^^ BitVec.ofInt 8 0).toNat : Nat) = a
  rw [show BitVec.ofInt 8 0 = 0#8 from rfl]
  rw [BitVec.xor_zero, BitVec.toNat_ofInt]
  have : IntKind.u8.wrap (((a % ((2 ^ 8 : Nat) : Int)).toNat : Nat) : Int) = a := by
    have h2 : a % ((2 ^ 8 : Nat) : Int) = a := Int.emod_eq_of_lt h.1 (by simpa using h.2)
    rw [h2, Int.toNat_of_nonneg h.1]
    simp only [IntKind.wrap, IntKind.bits, IntKind.signed]
    first | (simp; omega) | omega
  exact this
abbrev byteI (n : Int) : AV := .sc (.int .u8 n)
theorem numsOf_map : ∀ l : List Int, numsOf (l.map byteI) = some l
  | [] => rfl
  | n :: r => by
    show (match numsOf (r.map byteI) with | some l => some (n :: l) | none => none) = _
    rw [numsOf_map r]
theorem pure_btosm {l : List Int} (ho : o.op = .convert T T' x) (hT : P.underlying T = some (.slice e)) (he : P.underlying e = some (.int .u8)) (hT' : P.underlying T' = some .string) (hx : viewAt ρ ob x = some (c, .sl (l.map byteI))) :
    Pure P w0 M0 o ρ ob (.v .pl (sbytes (l.map fun n => UInt8.ofNat n.toNat))) := pure_btos ho hT he hT' hx (numsOf_map l)
theorem pure_eqsl {va : Option Addr} {n m n' m' : Nat} (ho : o.op = .binOp .eql T x y T') (hT : P.underlying T = some (.slice e)) (hx : scal ρ x = some (.slice va n m)) (hy : scal ρ y = some (.slice none n' m')) : Pure P w0 M0 o ρ ob (.v .pl (bool va.isNone)) :=
  pure_value fun E w ev hw h => by
    have hxv : ev x = .slice va n m := scal_ok h hx
    have hyv : ev y = .slice none n' m' := scal_ok h hy
    exact ⟨.bool va.isNone, w, by simp [execOp, ho, hxv, hyv, eqGuard, Lib.run_eql_slice_nil w _ _ _ _ _ _ _ hT], .refl _ _, .sc _ rfl⟩
theorem pure_eqsl_ne {xs : List AV} {n' m' : Nat} (ho : o.op = .binOp .eql T x y T') (hT : P.underlying T = some (.slice e)) (hx : viewAt ρ ob x = some (c, .sl xs)) (hy : scal ρ y = some (.slice none n' m')) (h0 : 0 < xs.length) : Pure P w0 M0 o ρ ob (.v .pl (bool false)) :=
  pure_value fun E w ev hw h => by
    have hr := viewAt_ok hw h hx
    have hyv : ev y = .slice none n' m' := scal_ok h hy
    generalize hq : ev x = q at hr
    cases hr with
    | sl a n cap _ k cv hn hc hk hb hl hr =>
      obtain ⟨b, of, rfl, _⟩ := hb (by omega)
      exact ⟨.bool false, w, by simp [execOp, ho, hq, hyv, eqGuard, Lib.run_eql_slice_nil w _ _ _ _ _ _ _ hT], .refl _ _, .sc _ rfl⟩
theorem src_sc0 {s : St} {y : Operand} {va : Option Addr} {m k : Nat} (hy : scal s.ev y = some (.slice va 0 m)) : Src P w0 M0 s y k [] := by
  intro E a w hs
  have hv : a.eval y = .slice va 0 m := scal_ok (ρ := s.ev) (ob := s.o) (fun x e hx => hs.ev hx) hy
  exact ⟨va, 0, m, [], hv, rfl, by simp, fun h => absurd h (by omega), fun x hx => (by cases hx), fun j d hd => (by simp [flat] at hd)⟩
end ops
end
end Go.Am
namespace Go.Wb
open Go.Am
def fold1 (a : List Letter) (x : Int) : Int := if isL a x = true then (a.getD x.toNat default).base else x
def foldP (a : List Letter) (w : List Int) : List Int := w.map (fold1 a)
theorem foldP_len (a : List Letter) (w : List Int) : (foldP a w).length = w.length := by simp [foldP]
theorem lets_level (a : List Letter) (u : List Int) : level a u 4 = lets a u := by
  unfold level
  rw [if_pos (by omega)]
  have : (lets a u).map (lev a 4) = (lets a u).map id := List.map_congr_left fun x _ => rfl
  rw [this, List.map_id]
theorem level_eq (a : List Letter) (u : List Int) {k : Int} (hk : 1 ≤ k ∧ k ≤ 4) : level a u k = (lets a u).map (lev a k) := by unfold level; rw [if_pos hk]
theorem lets_mem {a : List Letter} {u : List Int} {x : Int} (h : x ∈ lets a u) : isL a x = true := by unfold lets at h; exact (List.mem_filter.1 h).2
theorem base_isL {a : List Letter} (h : validA a = true) {x : Int} (hx : isL a x = true) : isL a (a.getD x.toNat default).base = true ∧ (a.getD (a.getD x.toNat default).base.toNat default).base = (a.getD x.toNat default).base ∧
    (a.getD (a.getD x.toNat default).base.toNat default).mark = 0 ∧ (a.getD (a.getD x.toNat default).base.toNat default).cap = 0 := by
  rw [isL_iff] at hx
  obtain ⟨_, q2, q3, q4, _⟩ := valid_get h (i := x.toNat) (by omega)
  have hb : isL a (a.getD x.toNat default).base = true := isL_true ⟨q2, q3⟩
  refine ⟨hb, q4, ?_⟩
  unfold validA at h
  rw [decide_eq_true_eq] at h
  have h2 := (h.2 (a.getD x.toNat default).base.toNat (by omega)).2.1
  exact h2 (by rw [q4]; omega)
/-- The folded letters of a word. -/
def baseP (a : List Letter) (w : List Int) : List Int := foldP a (level a w 4)
theorem baseP_eq (a : List Letter) (w : List Int) : baseP a w = level a w 1 := by
  unfold baseP foldP
  rw [lets_level, level_eq a w (by omega)]
  refine List.map_congr_left fun x hx => ?_
  unfold fold1 lev
  rw [if_pos (lets_mem hx), if_pos rfl]
theorem baseP_lets {a : List Letter} (h : validA a = true) (w : List Int) : lets a (baseP a w) = baseP a w := by
  unfold lets
  rw [List.filter_eq_self]
  intro y hy
  rw [baseP_eq, level_eq a w (by omega)] at hy
  obtain ⟨x, hx, rfl⟩ := List.mem_map.1 hy
  have := (base_isL h (lets_mem hx)).1
  unfold lev; rw [if_pos rfl]; exact this
theorem baseP_level1 {a : List Letter} (h : validA a = true) (w : List Int) : level a (baseP a w) 1 = level a w 1 := by
  rw [level_eq a _ (by omega), baseP_lets h, baseP_eq, level_eq a w (by omega), List.map_map]
  refine List.map_congr_left fun x hx => ?_
  have := (base_isL h (lets_mem hx)).2.1
  simp only [Function.comp, lev, if_true]
  exact this
theorem zero_le : ∀ {l : List Int} {f : Int → Int}, (∀ x ∈ l, 0 ≤ f x) → order (l.map fun _ => 0) (l.map f) ≤ 0
  | [], _, _ => Int.le_refl _
  | x :: r, f, h => by
    have h1 := h x List.mem_cons_self
    have ih := zero_le (l := r) (f := f) fun y hy => h y (List.mem_cons_of_mem _ hy)
    simp only [List.map_cons, order]
    (repeat' split) <;> omega
theorem baseP_level23 {a : List Letter} (h : validA a = true) (w : List Int) {k : Int} (hk : k = 2 ∨ k = 3) : order (level a (baseP a w) k) (level a w k) ≤ 0 := by
  have e1 : level a (baseP a w) k = (lets a w).map fun _ => 0 := by
    rw [level_eq a _ (by omega), baseP_lets h, baseP_eq, level_eq a w (by omega), List.map_map]
    refine List.map_congr_left fun x hx => ?_
    have hb := (base_isL h (lets_mem hx)).2.2
    simp only [Function.comp]
    rcases hk with rfl | rfl
    · show lev a 2 (lev a 1 x) = 0
      unfold lev; simp only [if_true]; exact hb.1
    · show lev a 3 (lev a 1 x) = 0
      unfold lev; simp only [if_true]; exact hb.2
  rw [e1, level_eq a w (by omega)]
  exact zero_le fun x hx => (lev_bd h (lets_mem hx) k).1
theorem upto_succ (a : List Letter) (v w : List Int) (n : Nat) (i : Int) : upto a v w (n + 1) i = if order (level a v i) (level a w i) ≠ 0 then order (level a v i) (level a w i) else upto a v w n (i + 1) := rfl
/-- A word is not less than its folded letters, unless they are equal up to level 3. -/
theorem base_less {a : List Letter} (h : validA a = true) (w : List Int) (hgt : 0 < order (keyC a (baseP a w)) (keyC a w)) : keyP a (baseP a w) 3 = keyP a w 3 := by
  rw [cmp_same, if_pos h] at hgt
  rw [← order_eq0, key_upto h _ _ (by omega)]
  have h1 : order (level a (baseP a w) 1) (level a w 1) = 0 := by rw [baseP_level1 h]; exact order_self _
  have h2 := baseP_level23 h w (k := 2) (.inl rfl)
  have h3 := baseP_level23 h w (k := 3) (.inr rfl)
  rw [upto_succ, if_neg (by omega), upto_succ] at hgt
  rw [upto_succ, if_neg (by omega), upto_succ]
  by_cases c2 : order (level a (baseP a w) (1 + 1)) (level a w (1 + 1)) = 0
  · rw [if_neg (by omega), upto_succ] at hgt ⊢
    by_cases c3 : order (level a (baseP a w) (1 + 1 + 1)) (level a w (1 + 1 + 1)) = 0
    · rw [if_neg (by omega)]; rfl
    · rw [if_pos c3] at hgt
      have e : (1 + 1 + 1 : Int) = 3 := rfl
      rw [e] at hgt; omega
  · rw [if_pos c2] at hgt
    have e : (1 + 1 : Int) = 2 := rfl
    rw [e] at hgt; omega
theorem same1_base {a : List Letter} (h : validA a = true) (w : List Int) : keyP a w 1 = keyP a (baseP a w) 1 := by rw [key1, key1, baseP_level1 h]
theorem inc_inj {x y : List Int} : x.map (· + 1) = y.map (· + 1) ↔ x = y := by
  rw [← order_eq0, order_inc, order_eq0]
theorem same1_iff (a : List Letter) (v w : List Int) : keyP a v 1 = keyP a w 1 ↔ baseP a v = baseP a w := by rw [key1, key1, inc_inj, baseP_eq, baseP_eq]
theorem same4_iff {a : List Letter} (h : validA a = true) (v w : List Int) : keyP a v 4 = keyP a w 4 ↔ order (keyC a v) (keyC a w) = 0 := by
  rw [cmp_same, if_pos h, ← key_upto h v w (by omega), order_eq0]
theorem same_down {a : List Letter} (h : validA a = true) {v w : List Int} {n : Nat} (h1 : 2 ≤ n ∧ n ≤ 4) (he : keyP a v n = keyP a w n) : keyP a v (n - 1) = keyP a w (n - 1) := by
  rw [← order_eq0, key_upto h _ _ (by omega)] at he ⊢
  by_cases h0 : upto a v w (n - 1) 1 = 0
  · exact h0
  · have := upto_lt (m := n) (by omega) h0; omega
theorem fold_get {a : List Letter} {w : List Int} {i : Nat} (hi : i < w.length) : (foldP a (w.take i) ++ w.drop i).getD i default = w.getD i default := by
  have h := foldP_len a (w.take i)
  rw [List.length_take, Nat.min_eq_left (by omega)] at h
  rw [List.getD_eq_getElem?_getD, List.getElem?_append_right (by omega), h, Nat.sub_self, List.getElem?_drop, Nat.add_zero, ← List.getD_eq_getElem?_getD]
theorem fold_set {a : List Letter} {w : List Int} {i : Nat} (hi : i < w.length) (hl : isL a (w.getD i default) = true) :
    ((foldP a (w.take i) ++ w.drop i).map int).set i (int (a.getD (w.getD i default).toNat default).base) = (foldP a (w.take (i + 1)) ++ w.drop (i + 1)).map int := by
  have h := foldP_len a (w.take i)
  rw [List.length_take, Nat.min_eq_left (by omega)] at h
  rw [← List.map_set, List.set_append_right _ _ (by omega), h, Nat.sub_self, drop_cons hi, List.set_cons_zero, take_succ hi]
  congr 1
  unfold foldP
  rw [List.map_append (f := fold1 a), List.map_singleton, List.append_assoc]
  unfold fold1
  rw [if_pos hl]; rfl
theorem fold_keep {a : List Letter} {w : List Int} {i : Nat} (hi : i < w.length) (hl : isL a (w.getD i default) = false) : foldP a (w.take (i + 1)) ++ w.drop (i + 1) = foldP a (w.take i) ++ w.drop i := by
  rw [drop_cons hi, take_succ hi]
  unfold foldP
  rw [List.map_append, List.map_singleton, List.append_assoc]
  unfold fold1
  rw [if_neg (by rw [hl]; simp)]; rfl
end Go.Wb
namespace Go.Wb
open Go.Am
def kvalI (n : Int) : Nat := if n = 0 then 0 else if n < 256 then 1 else 2
def wbB (n : Int) : List Int := if n = 0 then [] else if n < 256 then [n] else [n / 256, n % 256]
def wbE (n : Int) : List Int := (128 + (kvalI n : Int)) :: wbB n
theorem kvalI_le (n : Int) : kvalI n ≤ 2 := by unfold kvalI; (repeat' split) <;> omega
theorem wbB_len (n : Int) : (wbB n).length = kvalI n := by unfold wbB kvalI; (repeat' split) <;> rfl
theorem wbE_len (n : Int) : (wbE n).length ≤ 3 := by
  have := kvalI_le n
  unfold wbE; simp only [List.length_cons, wbB_len]; omega
theorem u64_id {n : Int} (h : 0 ≤ n ∧ n < 65536) : IntKind.u64.wrap n = n := by
  simp only [IntKind.wrap, IntKind.bits, IntKind.signed]
  first | (simp; omega) | omega
theorem u8_wrap (n : Int) : IntKind.u8.wrap n = n % 256 := by
  simp only [IntKind.wrap, IntKind.bits, IntKind.signed]
  first | rfl | (simp; omega) | omega
theorem shr_val {n : Int} (h : 0 ≤ n ∧ n < 65536) {k : Nat} (hk : k < 8) : n.fdiv (2 ^ (min ((8 * (k : Int)).toNat) IntKind.u64.bits)) = if k = 0 then n else if k = 1 then n / 256 else 0 := by
  match k, hk with
  | 0, _ => show n.fdiv 1 = n; simp
  | 1, _ => show n.fdiv 256 = n / 256; exact Int.fdiv_eq_ediv_of_nonneg _ (by decide)
  | 2, _ => show n.fdiv 65536 = 0; rw [Int.fdiv_eq_ediv_of_nonneg _ (by decide)]; omega
  | 3, _ => show n.fdiv 16777216 = 0; rw [Int.fdiv_eq_ediv_of_nonneg _ (by decide)]; omega
  | 4, _ => show n.fdiv 4294967296 = 0; rw [Int.fdiv_eq_ediv_of_nonneg _ (by decide)]; omega
  | 5, _ => show n.fdiv 1099511627776 = 0; rw [Int.fdiv_eq_ediv_of_nonneg _ (by decide)]; omega
  | 6, _ => show n.fdiv 281474976710656 = 0; rw [Int.fdiv_eq_ediv_of_nonneg _ (by decide)]; omega
  | 7, _ => show n.fdiv 72057594037927936 = 0; rw [Int.fdiv_eq_ediv_of_nonneg _ (by decide)]; omega
theorem shr_pos {n : Int} (h : 0 ≤ n ∧ n < 65536) {k : Nat} (hk : 1 ≤ k ∧ k ≤ 8) : 0 < n.fdiv (2 ^ (min ((8 * ((k : Int) - 1)).toNat) IntKind.u64.bits)) ↔ k ≤ kvalI n := by
  have h1 := shr_val h (k := k - 1) (by omega)
  rw [show ((k - 1 : Nat) : Int) = (k : Int) - 1 by omega] at h1
  rw [h1]
  unfold kvalI
  (repeat' split) <;> omega
theorem shr_byte {n : Int} (h : 0 ≤ n ∧ n < 65536) {j k : Nat} (hk : k = kvalI n) (hj : j < k) : IntKind.u8.wrap (n.fdiv (2 ^ (min ((8 * ((k : Int) - 1 - j)).toNat) IntKind.u64.bits))) = (wbB n).getD j default := by
  have hk2 := kvalI_le n
  have h1 := shr_val h (k := k - 1 - j) (by omega)
  rw [show ((k - 1 - j : Nat) : Int) = (k : Int) - 1 - j by omega] at h1
  rw [h1, u8_wrap]
  unfold kvalI at hk
  unfold wbB
  by_cases h0 : n = 0
  · rw [if_pos h0] at hk; omega
  · rw [if_neg h0] at hk ⊢
    by_cases h2 : n < 256
    · rw [if_pos h2] at hk ⊢
      obtain rfl : j = 0 := by omega
      subst hk
      simp only [Nat.sub_self, if_true]
      show n % 256 = n
      omega
    · rw [if_neg h2] at hk ⊢
      subst hk
      match j, hj with
      | 0, _ =>
        show (if (1 : Nat) = 0 then n else if (1 : Nat) = 1 then n / 256 else 0) % 256 = n / 256
        rw [if_neg (by decide), if_pos rfl]; omega
      | 1, _ =>
        show (if (0 : Nat) = 0 then n else if (0 : Nat) = 1 then n / 256 else 0) % 256 = n % 256
        rw [if_pos rfl]
/-- The order of encodings. -/
theorem enc_cmp {x y : Int} (hx : 0 ≤ x ∧ x < 65536) (hy : 0 ≤ y ∧ y < 65536) (s t : List Int) : order (wbE x ++ s) (wbE y ++ t) = if x < y then -1 else if y < x then 1 else order s t := by
  unfold wbE wbB kvalI
  (repeat' split) <;> simp only [List.cons_append, List.nil_append, order] <;> (repeat' split) <;> first | rfl | omega
def wbL (l : List Int) : List Int := (l.map wbE).flatten
theorem wbL_order : ∀ {l m : List Int}, (∀ x ∈ l, 0 ≤ x ∧ x < 65536) → (∀ x ∈ m, 0 ≤ x ∧ x < 65536) → order (wbL l) (wbL m) = order l m
  | [], [], _, _ => rfl
  | [], y :: m, _, _ => rfl
  | x :: l, [], _, _ => rfl
  | x :: l, y :: m, hx, hy => by
    have ih := wbL_order (l := l) (m := m) (fun z hz => hx z (List.mem_cons_of_mem _ hz)) (fun z hz => hy z (List.mem_cons_of_mem _ hz))
    have := enc_cmp (hx x List.mem_cons_self) (hy y List.mem_cons_self) (wbL l) (wbL m)
    simp only [wbL, List.map_cons, List.flatten_cons] at this ih ⊢
    rw [this, ih]; rfl
theorem wbL_snoc (l : List Int) (x : Int) : wbL (l ++ [x]) = wbL l ++ wbE x := by simp [wbL]
theorem wbL_len (l : List Int) : (wbL l).length ≤ 3 * l.length := by
  induction l with
  | nil => exact Nat.le_refl _
  | cons x r ih =>
    have := wbE_len x
    simp only [wbL, List.map_cons, List.flatten_cons, List.length_append, List.length_cons] at ih ⊢
    omega
theorem wbE_byte {x : Int} (hx : 0 ≤ x ∧ x < 65536) : ∀ b ∈ wbE x, 0 ≤ b ∧ b < 256 := by
  have := kvalI_le x
  unfold wbE wbB
  intro b hb
  rw [List.mem_cons] at hb
  rcases hb with rfl | hb
  · omega
  · split at hb
    · cases hb
    · split at hb <;> simp at hb <;> omega
theorem wbL_byte {l : List Int} (h : ∀ x ∈ l, 0 ≤ x ∧ x < 65536) : ∀ b ∈ wbL l, 0 ≤ b ∧ b < 256 := by
  intro b hb
  unfold wbL at hb
  obtain ⟨m, hm, hb⟩ := List.mem_flatten.1 hb
  obtain ⟨x, hx, rfl⟩ := List.mem_map.1 hm
  exact wbE_byte (h x hx) b hb
abbrev b8 (n : Int) : UInt8 := UInt8.ofNat n.toNat
theorem b8_lt {x y : Int} (hx : 0 ≤ x ∧ x < 256) (hy : 0 ≤ y ∧ y < 256) : (b8 x < b8 y ↔ x < y) ∧ (b8 x = b8 y ↔ x = y) := by
  have e : ∀ z : Int, 0 ≤ z ∧ z < 256 → (b8 z).toNat = z.toNat := fun z hz => by
    show (UInt8.ofNat z.toNat).toNat = z.toNat
    rw [UInt8.toNat_ofNat']
    exact Nat.mod_eq_of_lt (by omega)
  have e1 := e x hx
  have e2 := e y hy
  constructor
  · rw [UInt8.lt_iff_toNat_lt, e1, e2]; omega
  · rw [← UInt8.toNat_inj, e1, e2]; omega
theorem bytes_less : ∀ {l m : List Int}, (∀ x ∈ l, 0 ≤ x ∧ x < 256) → (∀ x ∈ m, 0 ≤ x ∧ x < 256) → (Op.bytesLess (l.map b8) (m.map b8) = decide (order l m < 0)) ∧ (l.map b8 = m.map b8 ↔ order l m = 0)
  | [], [], _, _ => ⟨rfl, by simp [order]⟩
  | [], y :: m, _, _ => ⟨rfl, by simp [order]⟩
  | x :: l, [], _, _ => ⟨rfl, by simp [order]⟩
  | x :: l, y :: m, hx, hy => by
    obtain ⟨i1, i2⟩ := bytes_less (l := l) (m := m) (fun z hz => hx z (List.mem_cons_of_mem _ hz)) (fun z hz => hy z (List.mem_cons_of_mem _ hz))
    obtain ⟨e1, e2⟩ := b8_lt (hx x List.mem_cons_self) (hy y List.mem_cons_self)
    simp only [List.map_cons, List.cons.injEq, Op.bytesLess, order]
    rw [i1]
    by_cases h1 : x < y
    · simp [h1, e1.2 h1]
      intro h; have := e2.1 h; omega
    · by_cases h2 : y < x
      · have n1 : ¬ b8 x < b8 y := fun h => h1 (e1.1 h)
        have n2 : ¬ b8 x = b8 y := fun h => by have := e2.1 h; omega
        simp [h1, h2, n1, n2]
      · have h3 : x = y := by omega
        subst h3
        simp [i2, UInt8.lt_irrefl]
end Go.Wb
namespace Go.Wb
open Go.Am Go.MapKept
abbrev texL : List (List UInt8) := [[32], [45], [49], [122], [115, 115], [99], [195], [10]]
def txV (a : List Letter) (m : List Int) (k : Nat) : Int :=
  let v := around (m.getD k default) (a.length + 14)
  if (a.length : Int) + 2 ≤ v then (v - a.length - 2).tmod a.length else v
def txP (a : List Letter) (m : List Int) (k : Nat) : List UInt8 :=
  if txV a m k < a.length then (a.getD (txV a m k).toNat default).text else texL.getD (around ((m.getD k default).tdiv 64) 8).toNat default
def textN (a : List Letter) (m : List Int) : Nat → List UInt8
  | 0 => []
  | k + 1 => textN a m k ++ txP a m k
theorem tdiv_I64 {x : Int} (h : I64 x) : I64 (x.tdiv 64) := by
  obtain ⟨h1, h2⟩ := h
  unfold I64
  rcases Int.le_total 0 x with hx | hx
  · rw [Int.tdiv_eq_ediv_of_nonneg hx]; omega
  · have : x.tdiv 64 = -((-x) / 64) := by rw [← Int.tdiv_eq_ediv_of_nonneg (by omega), Int.neg_tdiv, Int.neg_neg]
    rw [this]; omega
theorem tdiv_wrap {x : Int} (h : I64 x) : IntKind.i64.wrap (x.tdiv 64) = x.tdiv 64 := by
  obtain ⟨h1, h2⟩ := tdiv_I64 h
  simp only [IntKind.wrap, IntKind.bits, IntKind.signed]
  first | (simp; omega) | omega
theorem txP_len {a : List Letter} (h : ∀ x ∈ a, x.text.length ≤ 4) (m : List Int) (k : Nat) : (txP a m k).length ≤ 4 := by
  unfold txP
  split
  · exact text_get h _
  · rw [List.getD_eq_getElem?_getD]
    cases hk : texL[(around ((m.getD k default).tdiv 64) 8).toNat]? with
    | none => exact Nat.zero_le _
    | some x =>
      have : ∀ x ∈ texL, x.length ≤ 4 := by decide
      exact this x (List.mem_of_getElem? hk)
theorem texL_len (k : Nat) : (texL.getD k default).length ≤ 4 := by
  rw [List.getD_eq_getElem?_getD]
  cases hk : texL[k]? with
  | none => exact Nat.zero_le _
  | some x =>
    have : ∀ x ∈ texL, x.length ≤ 4 := by decide
    exact this x (List.mem_of_getElem? hk)
theorem txV_t {a : List Letter} {m : List Int} {k : Nat} (h : (a.length : Int) + 2 ≤ around (m.getD k default) (a.length + 14)) : txV a m k = (around (m.getD k default) (a.length + 14) - a.length - 2).tmod a.length := by
  unfold txV; simp only []; rw [if_pos h]
theorem txV_f {a : List Letter} {m : List Int} {k : Nat} (h : ¬ (a.length : Int) + 2 ≤ around (m.getD k default) (a.length + 14)) : txV a m k = around (m.getD k default) (a.length + 14) := by
  unfold txV; simp only []; rw [if_neg h]
theorem txV_bd {a : List Letter} (ha0 : 0 < a.length) (_h : True) (m : List Int) (k : Nat) : 0 ≤ txV a m k ∧ txV a m k < a.length + 14 := by
  have h1 := around_lt (n := m.getD k default) (most := (a.length : Int) + 14) (by omega)
  by_cases h : (a.length : Int) + 2 ≤ around (m.getD k default) (a.length + 14)
  · rw [txV_t h, Int.tmod_eq_emod_of_nonneg (by omega)]
    have h2 := Int.emod_nonneg (around (m.getD k default) (a.length + 14) - a.length - 2) (show (a.length : Int) ≠ 0 by omega)
    have h3 := Int.emod_lt_of_pos (around (m.getD k default) (a.length + 14) - a.length - 2) (show (0 : Int) < a.length by omega)
    omega
  · rw [txV_f h]; exact h1
theorem isKeys (a : List Letter) : ∀ q ∈ a.map keyT, IsKey .string q := by
  intro q hq
  obtain ⟨x, _, rfl⟩ := List.mem_map.1 hq
  trivial
theorem wbB_get {n : Int} (hn : 0 ≤ n ∧ n < 65536) (j : Nat) : 0 ≤ (wbB n).getD j default ∧ (wbB n).getD j default < 256 := by
  rw [List.getD_eq_getElem?_getD]
  cases hk : (wbB n)[j]? with
  | none => exact ⟨by decide, by decide⟩
  | some x => exact wbE_byte hn x (by unfold wbE; exact List.mem_cons_of_mem _ (List.mem_of_getElem? hk))
theorem shortW.get3 {w : List (List Int)} (h : shortW w) (k : Nat) : (w.getD k default).length ≤ 3000 := by
  rw [List.getD_eq_getElem?_getD]
  cases hk : w[k]? with
  | none => exact Nat.zero_le _
  | some x => exact h.2 x (List.mem_of_getElem? hk)
theorem textN_len {a : List Letter} (h : ∀ x ∈ a, x.text.length ≤ 4) (m : List Int) : ∀ k, (textN a m k).length ≤ 4 * k
  | 0 => Nat.le_refl _
  | k + 1 => by
    have h1 := textN_len h m k
    have h2 := txP_len h m k
    simp only [textN, List.length_append]; omega
def textP (a : List Letter) (m : List Int) : List UInt8 := textN a m (min m.length 40)
theorem textP_len {a : List Letter} (h : ∀ x ∈ a, x.text.length ≤ 4) (m : List Int) : (textP a m).length ≤ 160 := by
  have := textN_len h m (min m.length 40)
  unfold textP; omega
/-! ### reading -/
noncomputable def lookP (a : List Letter) (t : List UInt8) : Option Nat := kpos (a.map keyT) (.string ⟨t.toArray⟩)
noncomputable def lookI (a : List Letter) (t : List UInt8) : Int := match lookP a t with
  | some i => (i : Int)
  | none => 0
theorem kpos_lt {k : Value} : ∀ {l : List Value} {i : Nat}, kpos l k = some i → i < l.length
  | [], i, h => by cases h
  | x :: r, i, h => by
    unfold kpos at h
    split at h
    · simp only [Option.some.injEq] at h; subst h; simp
    · rw [Option.map_eq_some_iff] at h
      obtain ⟨j, hj, rfl⟩ := h
      have := kpos_lt hj
      simp; omega
theorem look_val (a : List Letter) (t : List UInt8) : mlook (.sc (.int .i64 0)) (a.map keyT) ((List.range a.length).map fun n : Nat => int n) (.string ⟨t.toArray⟩) = int (lookI a t) := by
  unfold mlook lookI lookP
  cases h : kpos (a.map keyT) (.string ⟨t.toArray⟩) with
  | none => rfl
  | some i =>
    have := kpos_lt h
    rw [List.length_map] at this
    simp only
    rw [List.getD_eq_getElem?_getD, List.getElem?_map, List.getElem?_range this]; rfl
noncomputable def matchN (a : List Letter) (s : List UInt8) (p : Nat) : Nat → Option (Int × Nat)
  | 0 => none
  | n + 1 => if mhas (a.map keyT) (.string ⟨((s.drop p).take (n + 1)).toArray⟩) = true then some (lookI a ((s.drop p).take (n + 1)), n + 1) else matchN a s p n
noncomputable def readF (a : List Letter) (s : List UInt8) : Nat → Nat → List Int → List Int × Int
  | 0, _, out => (out, -1)
  | f + 1, p, out => if p < s.length then match matchN a s p (min 4 (s.length - p)) with
      | some (i, n) => readF a s f (p + n) (out ++ [i])
      | none => (out, p)
    else (out, -1)
noncomputable def readP (a : List Letter) (s : List UInt8) : List Int × Int := readF a s (s.length + 1) 0 []
theorem matchN_hit {a : List Letter} {s : List UInt8} {p n : Nat} (h0 : 0 < n) (h : mhas (a.map keyT) (.string ⟨((s.drop p).take n).toArray⟩) = true) : matchN a s p n = some (lookI a ((s.drop p).take n), n) := by
  obtain ⟨k, rfl⟩ : ∃ k, n = k + 1 := ⟨n - 1, by omega⟩
  rw [matchN, if_pos h]
theorem matchN_miss {a : List Letter} {s : List UInt8} {p n : Nat} (h0 : 0 < n) (h : ¬ mhas (a.map keyT) (.string ⟨((s.drop p).take n).toArray⟩) = true) : matchN a s p n = matchN a s p (n - 1) := by
  obtain ⟨k, rfl⟩ : ∃ k, n = k + 1 := ⟨n - 1, by omega⟩
  rw [matchN, if_neg h, Nat.add_sub_cancel]
theorem readF_end {a : List Letter} {s : List UInt8} {f p : Nat} {out : List Int} (h : s.length ≤ p) : readF a s f p out = (out, -1) := by
  cases f with
  | zero => rfl
  | succ f => rw [readF, if_neg (by omega)]
theorem readF_stop {a : List Letter} {s : List UInt8} {f p : Nat} {out : List Int} (hf : 0 < f) (h : p < s.length) (hm : matchN a s p (min 4 (s.length - p)) = none) : readF a s f p out = (out, (p : Int)) := by
  obtain ⟨k, rfl⟩ : ∃ k, f = k + 1 := ⟨f - 1, by omega⟩
  rw [readF, if_pos h, hm]
theorem readF_step {a : List Letter} {s : List UInt8} {f p n : Nat} {i : Int} {out : List Int} (hf : 0 < f) (h : p < s.length) (hm : matchN a s p (min 4 (s.length - p)) = some (i, n)) : readF a s f p out = readF a s (f - 1) (p + n) (out ++ [i]) := by
  obtain ⟨k, rfl⟩ : ∃ k, f = k + 1 := ⟨f - 1, by omega⟩
  rw [readF, if_pos h, hm, Nat.add_sub_cancel]
theorem matchN_pos {a : List Letter} {s : List UInt8} {p : Nat} : ∀ {n : Nat} {i : Int} {k : Nat}, matchN a s p n = some (i, k) → 0 < k ∧ k ≤ n
  | 0, _, _, h => by cases h
  | n + 1, i, k, h => by
    unfold matchN at h
    split at h
    · simp only [Option.some.injEq, Prod.mk.injEq] at h; omega
    · have := matchN_pos h; omega
theorem readF_len {a : List Letter} {s : List UInt8} : ∀ {f p : Nat} {out : List Int}, out.length ≤ p → p ≤ s.length → (readF a s f p out).1.length ≤ s.length
  | 0, p, out, h, hp => by show out.length ≤ _; omega
  | f + 1, p, out, h, hp => by
    unfold readF
    split
    · split
      · rename_i i n hm
        have := matchN_pos hm
        exact readF_len (by simp; omega) (by omega)
      · show out.length ≤ _; omega
    · show out.length ≤ _; omega
theorem readP_len (a : List Letter) (s : List UInt8) : (readP a s).1.length ≤ s.length := readF_len (by simp) (by omega)
/-! ### keys -/
theorem keyC_bd {a : List Letter} (h : validA a = true) (w : List Int) : ∀ x ∈ keyC a w, 0 ≤ x ∧ x < 65536 := by
  have hl : ∀ k : Int, ∀ x ∈ (level a w k).map (· + 1), 0 ≤ x ∧ x < 65536 := fun k x hx => by
    obtain ⟨y, hy, rfl⟩ := List.mem_map.1 hx
    have := level_bd h w k y hy; omega
  intro x hx
  unfold keyC at hx
  rw [if_pos h, key4] at hx
  simp only [List.mem_append, List.mem_cons] at hx
  rcases hx with hx | rfl | hx | rfl | hx | rfl | hx
  · exact hl _ x hx
  · decide
  · exact hl _ x hx
  · decide
  · exact hl _ x hx
  · decide
  · exact hl _ x hx
theorem keyC_len3 {a : List Letter} (h : validA a = true) (w : List Int) : 3 ≤ (keyC a w).length := by
  unfold keyC
  rw [if_pos h, key4]
  simp only [List.length_append, List.length_cons]; omega
theorem keyC_get {a : List Letter} (h : validA a = true) (w : List Int) (k : Nat) : 0 ≤ (keyC a w).getD k default ∧ (keyC a w).getD k default < 65536 := by
  rw [List.getD_eq_getElem?_getD]
  cases hk : (keyC a w)[k]? with
  | none => exact ⟨by decide, by decide⟩
  | some x => exact keyC_bd h w x (List.mem_of_getElem? hk)
theorem keyC_short {a : List Letter} {w : List Int} (hw : w.length ≤ 3000) : (keyC a w).length ≤ 100000 := by
  unfold keyC; split
  · have := keyP_len4 a w 4 (by omega); omega
  · simp
theorem enc_less {a : List Letter} (h : validA a = true) (v w : List Int) : Op.bytesLess ((wbL (keyC a v)).map b8) ((wbL (keyC a w)).map b8) = decide (order (keyC a v) (keyC a w) < 0) := by
  rw [(bytes_less (wbL_byte (keyC_bd h v)) (wbL_byte (keyC_bd h w))).1, wbL_order (keyC_bd h v) (keyC_bd h w)]
theorem enc_same {a : List Letter} (h : validA a = true) (v w : List Int) : (wbL (keyC a v)).map b8 = (wbL (keyC a w)).map b8 ↔ order (keyC a v) (keyC a w) = 0 := by
  rw [(bytes_less (wbL_byte (keyC_bd h v)) (wbL_byte (keyC_bd h w))).2, wbL_order (keyC_bd h v) (keyC_bd h w)]
end Go.Wb
namespace Go.Proofs.Ytcimmcjnkphagaa
open Go.Am Go.Wb
set_option linter.unusedVariables false
set_option linter.unusedSimpArgs false
theorem fn36 : Fn1 Try.prog 36 Try.f36.ntmps 2 (Try.f36.body.getD .skip) := ⟨Try.f36, Try.func36, rfl, rfl, rfl, by kernel_rfl⟩
set_option maxRecDepth 100000 in
set_option maxHeartbeats 4000000 in
theorem int_call {n : Int} (hn : 0 ≤ n ∧ n < 65536) : CallF Try.prog 36 [int n] (.fresh 5 ((wbE n).map byteI)) := by
  have hkl := kvalI_le n
  refine callF_of_code fn36 (Nat.le_of_ble_eq_true rfl) fun w0 M0 hM0 => ?_
  refine code_seq ?_
  refine code_ops _ rfl ?_
  refine ol_step rfl (step_nil rfl rfl rfl rfl rfl 5 hM0) ?_
  refine ol_nil ?_
  refine seq_pick 47 [(0, _)] [] rfl ⟨rfl, trivial⟩ trivial ?_
  refine code_scope ?_
  refine code_seq ?_
  refine code_ops _ rfl ?_
  refine ol_pure rfl rfl rfl (pure_move rfl rfl) ?_
  refine ol_pure rfl rfl rfl (pure_toi (a' := n) (pure_conv rfl Try.underlying3 Try.underlying74 rfl) (u64_id hn)) ?_
  refine ol_pure rfl rfl rfl (pure_assign rfl rfl) ?_
  refine ol_pure rfl rfl rfl (pure_assign rfl rfl) ?_
  refine ol_nil ?_
  refine seq_pick 47 [(0, _), (3, _), (4, _)] [] rfl ⟨rfl, rfl, rfl, trivial⟩ trivial ?_
  refine code_seq ?_
  refine code_seq ?_
  refine code_ops _ rfl ?_
  refine ol_pure rfl rfl rfl (pure_move rfl rfl) ?_
  refine ol_pure rfl rfl rfl (pure_to (b' := false) (pure_lss rfl rfl rfl) (decide_eq_false (by omega))) ?_
  refine ol_nil ?_
  refine seq_pick 47 [(3, _), (4, _), (11, _)] [] rfl ⟨rfl, rfl, rfl, trivial⟩ trivial ?_
  refine code_cond_f rfl ?_
  refine code_skip ?_
  refine seq_pick 47 [(3, _), (4, _)] [] rfl ⟨rfl, rfl, trivial⟩ trivial ?_
  refine code_seq ?_
  refine code_ops _ rfl ?_
  refine ol_pure rfl rfl rfl (pure_assign rfl rfl) ?_
  refine ol_nil ?_
  refine seq_pick 47 [(3, _), (4, _), (5, _)] [] rfl ⟨rfl, rfl, rfl, trivial⟩ trivial ?_
  refine code_seq ?_
  refine code_label ?_
  refine seq_pick 47 [(3, _), (4, _), (5, _)] [] rfl ⟨rfl, rfl, rfl, trivial⟩ trivial ?_
  refine code_cut (fun zs => zs = ⟨47, [(3, .v .pl (.sc (.int .u64 n))), (4, .v .pl (.sc (.int .u8 0))), (5, .v .pl (int (kvalI n)))], []⟩) ?_ ?_
  · skip
    refine code_block ?_
    refine code_loopM (fun zm zs => ∃ k : Nat, zm = 0 + k ∧ (kvalI n ≤ k ∧ k ≤ 8) ∧ zs = ⟨47, [(3, .v .pl (.sc (.int .u64 n))), (4, .v .pl (.sc (.int .u8 0))), (5, .v .pl (int k))], []⟩) (loop_init (n := 47) (l := [(3, _), (4, _), (5, _)]) (o' := []) rfl ⟨rfl, rfl, rfl, trivial⟩ trivial ?_) ?_
    · exact ⟨_, 8, rfl, by omega, rfl⟩
    · rintro zm zs ⟨k, rfl, hL1_0, rfl⟩
      refine code_seq ?_
      refine code_seq ?_
      refine code_ops _ rfl ?_
      refine ol_pure rfl rfl rfl (pure_move rfl rfl) ?_
      refine ol_pure rfl rfl rfl (pure_gtr rfl rfl rfl) ?_
      refine ol_nil ?_
      refine seq_pick 47 [(3, _), (4, _), (5, _), (15, _)] [] rfl ⟨rfl, rfl, rfl, rfl, trivial⟩ trivial ?_
      refine code_cond rfl (fun h1 => ?_) (fun h1 => ?_)
      · try simp only [decide_eq_true_eq, decide_eq_false_iff_not, Bool.not_eq_true', Bool.not_eq_false', Bool.and_eq_true, Bool.or_eq_true, Bool.and_eq_false_iff, List.length_map, Int.toNat_natCast] at h1
        refine code_skip ?_
        refine seq_pick 47 [(3, _), (4, _), (5, _)] [] rfl ⟨rfl, rfl, rfl, trivial⟩ trivial ?_
        refine code_block ?_
        refine code_seq ?_
        refine code_seq ?_
        refine code_ops _ rfl ?_
        refine ol_pure rfl rfl rfl (pure_move rfl rfl) ?_
        refine ol_pure rfl rfl rfl (pure_move rfl rfl) ?_
        refine ol_pure rfl rfl rfl (pure_subi rfl rfl rfl (by omega)) ?_
        refine ol_pure rfl rfl rfl (pure_muli rfl rfl rfl (by omega)) ?_
        refine ol_pure rfl rfl rfl (pure_shr rfl rfl rfl (by omega)) ?_
        refine ol_pure rfl rfl rfl (pure_gtr rfl rfl rfl) ?_
        refine ol_nil ?_
        refine seq_pick 47 [(3, _), (4, _), (5, _), (21, _)] [] rfl ⟨rfl, rfl, rfl, rfl, trivial⟩ trivial ?_
        refine code_cond rfl (fun h2 => ?_) (fun h2 => ?_)
        · try simp only [decide_eq_true_eq, decide_eq_false_iff_not, Bool.not_eq_true', Bool.not_eq_false', Bool.and_eq_true, Bool.or_eq_true, Bool.and_eq_false_iff, List.length_map, Int.toNat_natCast] at h2
          have hsp := (shr_pos hn (k := k) (by omega)).1 (by assumption)
          refine code_exit ?_
          refine seqQ_exit ?_
          refine blockQ_other ?_ rfl
          refine loopM_exit ?_
          refine blockQ_same ?_
          refine cut_next (n := 47) (l := [(3, _), (4, _), (5, _)]) (o' := []) rfl ⟨rfl, rfl, rfl, trivial⟩ trivial ?_   -- cut 8 end 1
          rw [show k = kvalI n by omega]
        · try simp only [decide_eq_true_eq, decide_eq_false_iff_not, Bool.not_eq_true', Bool.not_eq_false', Bool.and_eq_true, Bool.or_eq_true, Bool.and_eq_false_iff, List.length_map, Int.toNat_natCast] at h2
          have hsp : ¬ k ≤ kvalI n := fun h => absurd ((shr_pos hn (k := k) (by omega)).2 h) (by assumption)
          refine code_skip ?_
          refine seq_pick 47 [(3, _), (4, _), (5, _)] [] rfl ⟨rfl, rfl, rfl, trivial⟩ trivial ?_
          refine code_ops _ rfl ?_
          refine ol_pure rfl rfl rfl (pure_move rfl rfl) ?_
          refine ol_pure rfl rfl rfl (pure_subi rfl rfl rfl (by omega)) ?_
          refine ol_pure rfl rfl rfl (pure_assign rfl rfl) ?_
          refine ol_nil ?_
          refine blockQ_normal ?_
          refine loop_next (n := 47) (l := [(3, _), (4, _), (5, _)]) (o' := []) rfl ⟨rfl, rfl, rfl, trivial⟩ trivial ?_   -- loop 1 end 1
          exact ⟨_, ⟨k - 1, rfl, by omega, by rw [show ((k - 1 : Nat) : Int) = (k : Int) - 1 by omega]⟩, by omega⟩
      · try simp only [decide_eq_true_eq, decide_eq_false_iff_not, Bool.not_eq_true', Bool.not_eq_false', Bool.and_eq_true, Bool.or_eq_true, Bool.and_eq_false_iff, List.length_map, Int.toNat_natCast] at h1
        refine code_exit ?_
        refine seqQ_exit ?_
        refine loopM_exit ?_
        refine blockQ_same ?_
        refine cut_next (n := 47) (l := [(3, _), (4, _), (5, _)]) (o' := []) rfl ⟨rfl, rfl, rfl, trivial⟩ trivial ?_   -- cut 8 end 2
        rw [show k = kvalI n by omega]
  · rintro zs ⟨rfl⟩
    refine code_seq ?_
    refine code_ops _ rfl ?_
    refine ol_pure rfl rfl rfl (pure_move rfl rfl) ?_
    refine ol_pure rfl rfl rfl (pure_addi rfl rfl rfl (by omega)) ?_
    refine ol_pure rfl rfl rfl (pure_toi (a' := (128 + (kvalI n : Int))) (pure_conv rfl Try.underlying3 Try.underlying5 rfl) (by rw [u8_wrap]; omega)) ?_
    refine ol_pure rfl rfl rfl (pure_move rfl rfl) ?_
    refine ol_pure rfl rfl rfl (pure_toi (a' := (128 + (kvalI n : Int))) (pure_xor rfl rfl rfl) (xor0 (by omega))) ?_
    refine ol_step rfl (step_lit rfl rfl rfl rfl Try.underlying53 el5 rfl rfl rfl rfl hM0) ?_
    refine ol_pure rfl rfl rfl (pure_assign rfl rfl) ?_
    refine ol_nil ?_
    refine seq_pick 47 [(3, _), (4, _), (5, _), (6, _)] [(29, _)] rfl ⟨rfl, rfl, rfl, rfl, trivial⟩ ⟨rfl, trivial⟩ ?_
    refine code_seq ?_
    refine code_seq ?_
    refine code_ops _ rfl ?_
    refine ol_pure rfl rfl rfl (pure_move rfl rfl) ?_
    refine ol_pure rfl rfl rfl (pure_subi rfl rfl rfl (by omega)) ?_
    refine ol_pure rfl rfl rfl (pure_assign rfl rfl) ?_
    refine ol_nil ?_
    refine seq_pick 47 [(3, _), (4, _), (6, _), (7, _)] [(29, _)] rfl ⟨rfl, rfl, rfl, rfl, trivial⟩ ⟨rfl, trivial⟩ ?_
    refine code_block ?_
    refine code_loopM (fun zm zs => ∃ j : Nat, zm = kvalI n - j ∧ (j ≤ kvalI n) ∧ zs = ⟨47, [(3, .v .pl (.sc (.int .u64 n))), (4, .v .pl (.sc (.int .u8 0))), (6, .own 29), (7, .v .pl (int ((kvalI n : Int) - 1 - j)))], [(29, .arr 5 (((128 + (kvalI n : Int)) :: (wbB n).take j).map byteI))]⟩) (loop_init (n := 47) (l := [(3, _), (4, _), (6, _), (7, _)]) (o' := [(29, _)]) rfl ⟨rfl, rfl, rfl, rfl, trivial⟩ ⟨rfl, trivial⟩ ?_) ?_
    · refine ⟨_, 0, rfl, Nat.zero_le _, ?_⟩
      rw [show ((kvalI n : Int) - 1 - ((0 : Nat) : Int)) = (kvalI n : Int) - 1 by omega]; rfl
    · rintro zm zs ⟨j, rfl, hL2_0, rfl⟩
      have hbl := wbB_len n
      have hbj := wbB_get hn j
      refine code_seq ?_
      refine code_seq ?_
      refine code_ops _ rfl ?_
      refine ol_pure rfl rfl rfl (pure_move rfl rfl) ?_
      refine ol_pure rfl rfl rfl (pure_geq rfl rfl rfl) ?_
      refine ol_nil ?_
      refine seq_pick 47 [(3, _), (4, _), (6, _), (7, _), (33, _)] [(29, _)] rfl ⟨rfl, rfl, rfl, rfl, rfl, trivial⟩ ⟨rfl, trivial⟩ ?_
      refine code_cond rfl (fun h3 => ?_) (fun h3 => ?_)
      · try simp only [decide_eq_true_eq, decide_eq_false_iff_not, Bool.not_eq_true', Bool.not_eq_false', Bool.and_eq_true, Bool.or_eq_true, Bool.and_eq_false_iff, List.length_map, Int.toNat_natCast] at h3
        refine code_skip ?_
        refine seq_pick 47 [(3, _), (4, _), (6, _), (7, _)] [(29, _)] rfl ⟨rfl, rfl, rfl, rfl, trivial⟩ ⟨rfl, trivial⟩ ?_
        refine code_seq ?_
        refine code_block ?_
        refine code_ops _ rfl ?_
        refine ol_pure rfl rfl rfl (pure_move rfl rfl) ?_
        refine ol_pure rfl rfl rfl (pure_move rfl rfl) ?_
        refine ol_pure rfl rfl rfl (pure_move rfl rfl) ?_
        refine ol_pure rfl rfl rfl (pure_muli rfl rfl rfl (by omega)) ?_
        refine ol_pure rfl rfl rfl (pure_shr rfl rfl rfl (by omega)) ?_
        refine ol_pure rfl rfl rfl (pure_toi (a' := ((wbB n).getD j default)) (pure_conv rfl Try.underlying74 Try.underlying5 rfl) (shr_byte hn rfl (by omega))) ?_
        refine ol_pure rfl rfl rfl (pure_move rfl rfl) ?_
        refine ol_pick 47 [(3, _), (4, _), (7, _), (36, _), (41, _), (42, _)] [(29, _)] rfl ⟨rfl, rfl, rfl, rfl, rfl, rfl, trivial⟩ ⟨rfl, trivial⟩ ?_
        refine ol_pure rfl rfl rfl (pure_toi (a' := ((wbB n).getD j default)) (pure_xor rfl rfl rfl) (xor0 hbj)) ?_
        refine ol_pure rfl rfl rfl (pure_lit rfl Try.underlying53 el5 rfl rfl rfl rfl hM0) ?_
        refine ol_step rfl (step_append rfl rfl rfl rfl Try.underlying53 el5 rfl rfl hM0 (src_pl rfl (one_len (by rfl))) (by simp only [List.length_map, List.length_cons, List.length_nil, List.length_take]; omega) (by simp only [List.length_map, List.length_cons, List.length_nil, List.length_take]; omega)) ?_
        refine ol_pure rfl rfl rfl (pure_assign rfl rfl) ?_
        refine ol_nil ?_
        refine blockQ_normal ?_
        refine seq_pick 47 [(3, _), (4, _), (6, _), (7, _)] [(29, _)] rfl ⟨rfl, rfl, rfl, rfl, trivial⟩ ⟨rfl, trivial⟩ ?_
        refine code_ops _ rfl ?_
        refine ol_pure rfl rfl rfl (pure_move rfl rfl) ?_
        refine ol_pure rfl rfl rfl (pure_subi rfl rfl rfl (by omega)) ?_
        refine ol_pure rfl rfl rfl (pure_assign rfl rfl) ?_
        refine ol_nil ?_
        refine loop_next (n := 47) (l := [(3, _), (4, _), (6, _), (7, _)]) (o' := [(29, _)]) rfl ⟨rfl, rfl, rfl, rfl, trivial⟩ ⟨rfl, trivial⟩ ?_   -- loop 2 end 1
        exact ⟨_, ⟨j + 1, rfl, by omega, by rw [take_succ (by omega), ← List.cons_append, List.map_append, show ((kvalI n : Int) - 1 - ((j + 1 : Nat) : Int)) = (kvalI n : Int) - 1 - j - 1 by omega]; rfl⟩, by omega⟩
      · try simp only [decide_eq_true_eq, decide_eq_false_iff_not, Bool.not_eq_true', Bool.not_eq_false', Bool.and_eq_true, Bool.or_eq_true, Bool.and_eq_false_iff, List.length_map, Int.toNat_natCast] at h3
        refine code_exit ?_
        refine seqQ_exit ?_
        refine loopM_exit ?_
        refine blockQ_same ?_
        refine seq_pick 47 [(6, _)] [(29, _)] rfl ⟨rfl, trivial⟩ ⟨rfl, trivial⟩ ?_
        refine code_seq ?_
        refine code_ops _ rfl ?_
        refine ol_pure rfl rfl rfl (pure_move rfl rfl) ?_
        refine ol_pure rfl rfl rfl (pure_assign rfl rfl) ?_
        refine ol_nil ?_
        refine seq_pick 47 [(2, _)] [(29, _)] rfl ⟨rfl, trivial⟩ ⟨rfl, trivial⟩ ?_
        refine code_ret ?_
        refine scopeQ_ret ?_
        refine end_ret rfl ?_   -- end 1
        rw [List.take_of_length_le (by rw [wbB_len]; omega)]; rfl
theorem fn35 : Fn1 Try.prog 35 Try.f35.ntmps 4 (Try.f35.body.getD .skip) := ⟨Try.f35, Try.func35, rfl, rfl, rfl, by kernel_rfl⟩
set_option maxRecDepth 100000 in
set_option maxHeartbeats 4000000 in
theorem text_call {a : List Letter} {m : List Int} (ha : a.length ≤ 1099511627776) (ha0 : 0 < a.length) (ht : ∀ x ∈ a, x.text.length ≤ 4) (h64 : I64s m) (hml0 : m.length ≤ 9223372036854775807) : CallF Try.prog 35 [letters a, ints m] (.p (sbytes (textP a m))) := by
  have hva := fun k => around_lt (n := m.getD k default) (most := (a.length : Int) + 14) (by omega)
  refine callF_of_code fn35 (Nat.le_of_ble_eq_true rfl) fun w0 M0 hM0 => ?_
  refine code_seq ?_
  refine code_ops _ rfl ?_
  refine ol_pure rfl rfl rfl (pure_assign rfl rfl) ?_
  refine ol_nil ?_
  refine seq_pick 62 [(0, _), (1, _)] [] rfl ⟨rfl, rfl, trivial⟩ trivial ?_
  refine code_seq ?_
  refine code_ops _ rfl ?_
  refine ol_pure rfl rfl rfl (pure_assign rfl rfl) ?_
  refine ol_nil ?_
  refine seq_pick 62 [(0, _), (1, _), (5, _)] [] rfl ⟨rfl, rfl, rfl, trivial⟩ trivial ?_
  refine code_seq ?_
  refine code_seq ?_
  refine code_ops _ rfl ?_
  refine ol_pure rfl rfl rfl (pure_assign rfl rfl) ?_
  refine ol_nil ?_
  refine seq_pick 62 [(0, _), (1, _), (5, _), (6, _)] [] rfl ⟨rfl, rfl, rfl, rfl, trivial⟩ trivial ?_
  refine code_block ?_
  refine code_loopM (fun zm zs => ∃ i : Nat, zm = m.length - i ∧ (i ≤ m.length) ∧ (i ≤ 40) ∧ zs = ⟨62, [(0, .v .mx (letters a)), (1, .v .mx (ints m)), (5, .v .pl (sbytes (textN a m i))), (6, .v .pl (int i))], []⟩) (loop_init (n := 62) (l := [(0, _), (1, _), (5, _), (6, _)]) (o' := []) rfl ⟨rfl, rfl, rfl, rfl, trivial⟩ trivial ?_) ?_
  · exact ⟨_, 0, rfl, Nat.zero_le _, Nat.zero_le _, rfl⟩
  · rintro zm zs ⟨i, rfl, hL1_0, hL1_1, rfl⟩
    have hml := hml0
    have hvi := hva i
    refine code_seq ?_
    refine code_seq ?_
    refine code_ops _ rfl ?_
    refine ol_pure rfl rfl rfl (pure_move rfl rfl) ?_
    refine ol_pure rfl rfl rfl (pure_move rfl rfl) ?_
    refine ol_pure rfl rfl rfl (pure_lenm rfl Try.underlying22 rfl) ?_
    refine ol_pure rfl rfl rfl (pure_lss rfl rfl rfl) ?_
    refine ol_pure rfl rfl rfl (pure_move rfl rfl) ?_
    refine ol_guard rfl (fun h1 => ?_) (fun h1 => ?_)
    · have h1' := h1; try simp only [decide_eq_true_eq, decide_eq_false_iff_not, Bool.not_eq_true', Bool.not_eq_false', Bool.and_eq_true, Bool.or_eq_true, Bool.and_eq_false_iff, List.length_map, Int.toNat_natCast] at h1'
      refine ol_pure_g rfl rfl h1 rfl rfl (pure_move rfl rfl) ?_
      refine ol_pure_g rfl rfl h1 rfl rfl (pure_lss rfl rfl rfl) ?_
      refine ol_pure rfl rfl rfl (pure_pick_t rfl rfl h1 rfl) ?_
      refine ol_nil ?_
      refine seq_pick 62 [(0, _), (1, _), (5, _), (6, _), (15, _)] [] rfl ⟨rfl, rfl, rfl, rfl, rfl, trivial⟩ trivial ?_
      refine code_cond rfl (fun h2 => ?_) (fun h2 => ?_)
      · try simp only [decide_eq_true_eq, decide_eq_false_iff_not, Bool.not_eq_true', Bool.not_eq_false', Bool.and_eq_true, Bool.or_eq_true, Bool.and_eq_false_iff, List.length_map, Int.toNat_natCast] at h2
        refine code_skip ?_
        refine seq_pick 62 [(0, _), (1, _), (5, _), (6, _)] [] rfl ⟨rfl, rfl, rfl, rfl, trivial⟩ trivial ?_
        refine code_seq ?_
        refine code_block ?_
        refine code_seq ?_
        refine code_ops _ rfl ?_
        refine ol_pure rfl rfl rfl (pure_move rfl rfl) ?_
        refine ol_pure rfl rfl rfl (pure_move rfl rfl) ?_
        first | refine ol_pure rfl rfl rfl (pure_indexn (f := int) (l := m) rfl Try.underlying22 sz3 rfl rfl (by omega) (fun _ => rfl)) ?_ | refine ol_pure rfl rfl rfl (pure_indexm (f := int) (l := m) rfl Try.underlying22 sz3 rfl rfl (by omega) (fun _ => rfl)) ?_
        refine ol_pure rfl rfl rfl (pure_load rfl ag3 rfl rfl) ?_
        refine ol_pure rfl rfl rfl (pure_move rfl rfl) ?_
        refine ol_pure rfl rfl rfl (pure_lenm rfl Try.underlying24 rfl) ?_
        refine ol_pure rfl rfl rfl (pure_addi rfl rfl rfl (by omega)) ?_
        refine ol_pure rfl rfl rfl (pure_call rfl rfl rfl (around_call (h64.get i) (by omega)) hM0) ?_
        refine ol_pure rfl rfl rfl (pure_assign rfl rfl) ?_
        refine ol_nil ?_
        refine seq_pick 62 [(0, _), (1, _), (5, _), (6, _), (7, _)] [] rfl ⟨rfl, rfl, rfl, rfl, rfl, trivial⟩ trivial ?_
        refine code_cut (fun zs => zs = ⟨62, [(0, .v .mx (letters a)), (1, .v .mx (ints m)), (5, .v .pl (sbytes (textN a m i))), (6, .v .pl (int i)), (7, .v .pl (int (txV a m i)))], []⟩) ?_ ?_
        · skip
          refine code_seq ?_
          refine code_ops _ rfl ?_
          refine ol_pure rfl rfl rfl (pure_move rfl rfl) ?_
          refine ol_pure rfl rfl rfl (pure_move rfl rfl) ?_
          refine ol_pure rfl rfl rfl (pure_lenm rfl Try.underlying24 rfl) ?_
          refine ol_pure rfl rfl rfl (pure_addi rfl rfl rfl (by omega)) ?_
          refine ol_pure rfl rfl rfl (pure_geq rfl rfl rfl) ?_
          refine ol_nil ?_
          refine seq_pick 62 [(0, _), (1, _), (5, _), (6, _), (7, _), (30, _)] [] rfl ⟨rfl, rfl, rfl, rfl, rfl, rfl, trivial⟩ trivial ?_
          refine code_cond rfl (fun h3 => ?_) (fun h3 => ?_)
          · try simp only [decide_eq_true_eq, decide_eq_false_iff_not, Bool.not_eq_true', Bool.not_eq_false', Bool.and_eq_true, Bool.or_eq_true, Bool.and_eq_false_iff, List.length_map, Int.toNat_natCast] at h3
            refine code_ops _ rfl ?_
            refine ol_pure rfl rfl rfl (pure_move rfl rfl) ?_
            refine ol_pure rfl rfl rfl (pure_move rfl rfl) ?_
            refine ol_pure rfl rfl rfl (pure_lenm rfl Try.underlying24 rfl) ?_
            refine ol_pure rfl rfl rfl (pure_subi rfl rfl rfl (by omega)) ?_
            refine ol_pure rfl rfl rfl (pure_subi rfl rfl rfl (by omega)) ?_
            refine ol_pure rfl rfl rfl (pure_move rfl rfl) ?_
            refine ol_pure rfl rfl rfl (pure_lenm rfl Try.underlying24 rfl) ?_
            refine ol_pure rfl rfl rfl (pure_rem rfl rfl rfl (by omega)) ?_
            refine ol_pure rfl rfl rfl (pure_assign rfl rfl) ?_
            refine ol_nil ?_
            refine cut_next (n := 62) (l := [(0, _), (1, _), (5, _), (6, _), (7, _)]) (o' := []) rfl ⟨rfl, rfl, rfl, rfl, rfl, trivial⟩ trivial ?_   -- cut 8 end 1
            rw [txV_t (by omega)]
            try rfl
          · try simp only [decide_eq_true_eq, decide_eq_false_iff_not, Bool.not_eq_true', Bool.not_eq_false', Bool.and_eq_true, Bool.or_eq_true, Bool.and_eq_false_iff, List.length_map, Int.toNat_natCast] at h3
            refine code_skip ?_
            refine cut_next (n := 62) (l := [(0, _), (1, _), (5, _), (6, _), (7, _)]) (o' := []) rfl ⟨rfl, rfl, rfl, rfl, rfl, trivial⟩ trivial ?_   -- cut 8 end 2
            rw [txV_f (by omega)]
            try rfl
        · rintro zs ⟨rfl⟩
          have htv := txV_bd (a := a) ha0 trivial m i
          refine code_seq ?_
          refine code_ops _ rfl ?_
          refine ol_pure rfl rfl rfl (pure_move rfl rfl) ?_
          refine ol_pure rfl rfl rfl (pure_move rfl rfl) ?_
          refine ol_pure rfl rfl rfl (pure_lenm rfl Try.underlying24 rfl) ?_
          refine ol_pure rfl rfl rfl (pure_lss rfl rfl rfl) ?_
          refine ol_nil ?_
          refine seq_pick 62 [(0, _), (1, _), (5, _), (6, _), (7, _), (42, _)] [] rfl ⟨rfl, rfl, rfl, rfl, rfl, rfl, trivial⟩ trivial ?_
          refine code_cond rfl (fun h4 => ?_) (fun h4 => ?_)
          · try simp only [decide_eq_true_eq, decide_eq_false_iff_not, Bool.not_eq_true', Bool.not_eq_false', Bool.and_eq_true, Bool.or_eq_true, Bool.and_eq_false_iff, List.length_map, Int.toNat_natCast] at h4
            refine code_ops _ rfl ?_
            refine ol_pure rfl rfl rfl (pure_move rfl rfl) ?_
            refine ol_pure rfl rfl rfl (pure_move rfl rfl) ?_
            refine ol_pure rfl rfl rfl (pure_move rfl rfl) ?_
            first | refine ol_pure rfl rfl rfl (pure_indexn (f := letter) (l := a) rfl Try.underlying24 sz48 rfl rfl (by omega) (fun _ => rfl)) ?_ | refine ol_pure rfl rfl rfl (pure_indexm (f := letter) (l := a) rfl Try.underlying24 sz48 rfl rfl (by omega) (fun _ => rfl)) ?_
            refine ol_pure rfl rfl rfl (pure_field rfl fd48_0 rfl) ?_
            refine ol_pure rfl rfl rfl (pure_load rfl ag9 rfl rfl) ?_
            refine ol_pure rfl rfl rfl (pure_sadd rfl rfl rfl (by have := text_get ht (txV a m i).toNat; have := textN_len ht m i; omega)) ?_
            refine ol_pure rfl rfl rfl (pure_assign rfl rfl) ?_
            refine ol_nil ?_
            refine blockQ_normal ?_
            refine seq_pick 62 [(0, _), (1, _), (5, _), (6, _)] [] rfl ⟨rfl, rfl, rfl, rfl, trivial⟩ trivial ?_
            refine code_ops _ rfl ?_
            refine ol_pure rfl rfl rfl (pure_move rfl rfl) ?_
            refine ol_pure rfl rfl rfl (pure_addi rfl rfl rfl (by omega)) ?_
            refine ol_pure rfl rfl rfl (pure_assign rfl rfl) ?_
            refine ol_nil ?_
            refine loop_next (n := 62) (l := [(0, _), (1, _), (5, _), (6, _)]) (o' := []) rfl ⟨rfl, rfl, rfl, rfl, trivial⟩ trivial ?_   -- loop 1 end 1
            exact ⟨_, ⟨i + 1, rfl, by omega, by omega, by rw [textN, txP]; first | (rw [if_pos (by omega)]; rfl) | (rw [if_neg (by omega)]; rfl)⟩, by omega⟩
          · try simp only [decide_eq_true_eq, decide_eq_false_iff_not, Bool.not_eq_true', Bool.not_eq_false', Bool.and_eq_true, Bool.or_eq_true, Bool.and_eq_false_iff, List.length_map, Int.toNat_natCast] at h4
            refine code_ops _ rfl ?_
            refine ol_pure rfl rfl rfl (pure_move rfl rfl) ?_
            refine ol_pure rfl rfl rfl (pure_lit rfl Try.underlying73 el9 rfl rfl rfl rfl hM0) ?_
            refine ol_pure rfl rfl rfl (pure_move rfl rfl) ?_
            refine ol_pure rfl rfl rfl (pure_move rfl rfl) ?_
            first | refine ol_pure rfl rfl rfl (pure_indexn (f := int) (l := m) rfl Try.underlying22 sz3 rfl rfl (by omega) (fun _ => rfl)) ?_ | refine ol_pure rfl rfl rfl (pure_indexm (f := int) (l := m) rfl Try.underlying22 sz3 rfl rfl (by omega) (fun _ => rfl)) ?_
            refine ol_pure rfl rfl rfl (pure_load rfl ag3 rfl rfl) ?_
            refine ol_pure rfl rfl rfl (pure_toi (a' := ((m.getD i default).tdiv 64)) (pure_quo rfl rfl rfl (by omega)) (tdiv_wrap (h64.get i))) ?_
            refine ol_pick 62 [(0, _), (1, _), (6, _), (50, _), (51, _), (56, _)] [] rfl ⟨rfl, rfl, rfl, rfl, rfl, rfl, trivial⟩ trivial ?_
            refine ol_pure rfl rfl rfl (pure_call rfl rfl rfl (around_call (tdiv_I64 (h64.get i)) (by decide)) hM0) ?_
            first | refine ol_pure rfl rfl rfl (pure_indexn (f := sbytes) (l := texL) rfl Try.underlying73 sz9 rfl rfl (by have := around_lt (n := (m.getD i default).tdiv 64) (most := 8) (by decide); simp only [List.length_cons, List.length_nil]; omega) (fun _ => rfl)) ?_ | refine ol_pure rfl rfl rfl (pure_indexm (f := sbytes) (l := texL) rfl Try.underlying73 sz9 rfl rfl (by have := around_lt (n := (m.getD i default).tdiv 64) (most := 8) (by decide); simp only [List.length_cons, List.length_nil]; omega) (fun _ => rfl)) ?_
            refine ol_pure rfl rfl rfl (pure_load rfl ag9 rfl rfl) ?_
            refine ol_pure rfl rfl rfl (pure_sadd rfl rfl rfl (by have := textN_len ht m i; have := texL_len (around ((m.getD i default).tdiv 64) 8).toNat; omega)) ?_
            refine ol_pure rfl rfl rfl (pure_assign rfl rfl) ?_
            refine ol_nil ?_
            refine blockQ_normal ?_
            refine seq_pick 62 [(0, _), (1, _), (5, _), (6, _)] [] rfl ⟨rfl, rfl, rfl, rfl, trivial⟩ trivial ?_
            refine code_ops _ rfl ?_
            refine ol_pure rfl rfl rfl (pure_move rfl rfl) ?_
            refine ol_pure rfl rfl rfl (pure_addi rfl rfl rfl (by omega)) ?_
            refine ol_pure rfl rfl rfl (pure_assign rfl rfl) ?_
            refine ol_nil ?_
            refine loop_next (n := 62) (l := [(0, _), (1, _), (5, _), (6, _)]) (o' := []) rfl ⟨rfl, rfl, rfl, rfl, trivial⟩ trivial ?_   -- loop 1 end 2
            exact ⟨_, ⟨i + 1, rfl, by omega, by omega, by rw [textN, txP]; first | (rw [if_pos (by omega)]; rfl) | (rw [if_neg (by omega)]; rfl)⟩, by omega⟩
      · try simp only [decide_eq_true_eq, decide_eq_false_iff_not, Bool.not_eq_true', Bool.not_eq_false', Bool.and_eq_true, Bool.or_eq_true, Bool.and_eq_false_iff, List.length_map, Int.toNat_natCast] at h2
        refine code_exit ?_
        refine seqQ_exit ?_
        refine loopM_exit ?_
        refine blockQ_same ?_
        refine seq_pick 62 [(5, _)] [] rfl ⟨rfl, trivial⟩ trivial ?_
        refine code_seq ?_
        refine code_ops _ rfl ?_
        refine ol_pure rfl rfl rfl (pure_move rfl rfl) ?_
        refine ol_pure rfl rfl rfl (pure_assign rfl rfl) ?_
        refine ol_nil ?_
        refine seq_pick 62 [(4, _)] [] rfl ⟨rfl, trivial⟩ trivial ?_
        refine code_ret ?_
        refine end_ret rfl ?_   -- end 1
        rw [textP, show min m.length 40 = i by omega]
    · have h1' := h1; try simp only [decide_eq_true_eq, decide_eq_false_iff_not, Bool.not_eq_true', Bool.not_eq_false', Bool.and_eq_true, Bool.or_eq_true, Bool.and_eq_false_iff, List.length_map, Int.toNat_natCast] at h1'
      refine ol_skip_g rfl rfl h1 rfl rfl ?_
      refine ol_skip_g rfl rfl h1 rfl rfl ?_
      refine ol_pure rfl rfl rfl (pure_pick_f rfl rfl h1 rfl) ?_
      refine ol_nil ?_
      refine seq_pick 62 [(0, _), (1, _), (5, _), (6, _), (15, _)] [] rfl ⟨rfl, rfl, rfl, rfl, rfl, trivial⟩ trivial ?_
      refine code_cond_f rfl ?_
      refine code_exit ?_
      refine seqQ_exit ?_
      refine loopM_exit ?_
      refine blockQ_same ?_
      refine seq_pick 62 [(5, _)] [] rfl ⟨rfl, trivial⟩ trivial ?_
      refine code_seq ?_
      refine code_ops _ rfl ?_
      refine ol_pure rfl rfl rfl (pure_move rfl rfl) ?_
      refine ol_pure rfl rfl rfl (pure_assign rfl rfl) ?_
      refine ol_nil ?_
      refine seq_pick 62 [(4, _)] [] rfl ⟨rfl, trivial⟩ trivial ?_
      refine code_ret ?_
      refine end_ret rfl ?_   -- end 2
      rw [textP, show min m.length 40 = i by omega]
theorem fn34 : Fn2 Try.prog 34 Try.f34.ntmps 4 5 (Try.f34.body.getD .skip) := ⟨Try.f34, Try.func34, rfl, rfl, rfl, by kernel_rfl⟩
set_option maxRecDepth 100000 in
set_option maxHeartbeats 4000000 in
theorem read_call {a : List Letter} {s : List UInt8} (hA : okA a) (hV : validA a = true) (hs : s.length ≤ 1099511627776) : CallF Try.prog 34 [letters a, sbytes s] (.p (.tup [ints (readP a s).1, int (readP a s).2])) := by
  have hIx := index_call hA.len hA.txt
  unfold indexAV at hIx
  rw [if_pos hV] at hIx
  refine callF_of_code2 fn34 (Nat.le_of_ble_eq_true rfl) fun w0 M0 hM0 => ?_
  refine code_seq ?_
  refine code_ops _ rfl ?_
  refine ol_step rfl (step_nil rfl rfl rfl rfl rfl 3 hM0) ?_
  refine ol_pure rfl rfl rfl (pure_assign rfl rfl) ?_
  refine ol_nil ?_
  refine seq_pick 51 [(0, _), (1, _)] [] rfl ⟨rfl, rfl, trivial⟩ trivial ?_
  refine code_scope ?_
  refine code_seq ?_
  refine code_ops _ rfl ?_
  refine ol_pure rfl rfl rfl (pure_move rfl rfl) ?_
  refine ol_pure rfl rfl rfl (pure_call rfl rfl rfl (hIx) hM0) ?_
  refine ol_pure rfl rfl rfl (pure_assign rfl rfl) ?_
  refine ol_nil ?_
  refine seq_pick 51 [(1, _), (6, _)] [] rfl ⟨rfl, rfl, trivial⟩ trivial ?_
  refine code_seq ?_
  refine code_seq ?_
  refine code_ops _ rfl ?_
  refine ol_pure rfl rfl rfl (pure_move rfl rfl) ?_
  refine ol_pure rfl rfl rfl (pure_to (b' := false) (pure_eql_mnil rfl Try.underlying70 rfl rfl) (rfl)) ?_
  refine ol_nil ?_
  refine seq_pick 51 [(1, _), (6, _), (15, _)] [] rfl ⟨rfl, rfl, rfl, trivial⟩ trivial ?_
  refine code_cond_f rfl ?_
  refine code_skip ?_
  refine seq_pick 51 [(1, _), (6, _)] [] rfl ⟨rfl, rfl, trivial⟩ trivial ?_
  refine code_seq ?_
  refine code_ops _ rfl ?_
  refine ol_step rfl (step_nil rfl rfl rfl rfl rfl 3 hM0) ?_
  refine ol_nil ?_
  refine seq_pick 51 [(1, _), (6, _), (7, _)] [(7, _)] rfl ⟨rfl, rfl, rfl, trivial⟩ ⟨rfl, trivial⟩ ?_
  refine code_seq ?_
  refine code_ops _ rfl ?_
  refine ol_pure rfl rfl rfl (pure_assign rfl rfl) ?_
  refine ol_nil ?_
  refine seq_pick 51 [(1, _), (6, _), (7, _), (8, _)] [(7, _)] rfl ⟨rfl, rfl, rfl, rfl, trivial⟩ ⟨rfl, trivial⟩ ?_
  refine code_seq ?_
  refine code_label ?_
  refine seq_pick 51 [(1, _), (6, _), (7, _), (8, _)] [(7, _)] rfl ⟨rfl, rfl, rfl, rfl, trivial⟩ ⟨rfl, trivial⟩ ?_
  refine code_seq ?_
  refine code_block ?_
  refine code_loopM (fun zm zs => ∃ (p : Nat) (out : List Int) (f : Nat), zm = s.length - p ∧ (p ≤ s.length) ∧ (out.length ≤ p) ∧ (s.length - p < f) ∧ (readP a s = readF a s f p out) ∧ zs = ⟨51, [(1, .v .mx (sbytes s)), (6, .v .pl (.mp (a.map keyT) ((List.range a.length).map fun n : Nat => int n))), (7, .own 7), (8, .v .pl (int p))], [(7, .arr 3 (out.map int))]⟩) (loop_init (n := 51) (l := [(1, _), (6, _), (7, _), (8, _)]) (o' := [(7, _)]) rfl ⟨rfl, rfl, rfl, rfl, trivial⟩ ⟨rfl, trivial⟩ ?_) ?_
  · exact ⟨_, 0, [], s.length + 1, rfl, Nat.zero_le _, Nat.zero_le _, by omega, rfl, rfl⟩
  · rintro zm zs ⟨p, out, f, rfl, hL1_0, hL1_1, hL1_2, hL1_3, rfl⟩
    refine code_seq ?_
    refine code_seq ?_
    refine code_ops _ rfl ?_
    refine ol_pure rfl rfl rfl (pure_move rfl rfl) ?_
    refine ol_pure rfl rfl rfl (pure_move rfl rfl) ?_
    refine ol_pure rfl rfl rfl (pure_slen rfl Try.underlying9 rfl) ?_
    refine ol_pure rfl rfl rfl (pure_lss rfl rfl rfl) ?_
    refine ol_nil ?_
    refine seq_pick 51 [(1, _), (6, _), (7, _), (8, _), (19, _)] [(7, _)] rfl ⟨rfl, rfl, rfl, rfl, rfl, trivial⟩ ⟨rfl, trivial⟩ ?_
    refine code_cond rfl (fun h1 => ?_) (fun h1 => ?_)
    · try simp only [decide_eq_true_eq, decide_eq_false_iff_not, Bool.not_eq_true', Bool.not_eq_false', Bool.and_eq_true, Bool.or_eq_true, Bool.and_eq_false_iff, List.length_map, Int.toNat_natCast] at h1
      refine code_skip ?_
      refine seq_pick 51 [(1, _), (6, _), (7, _), (8, _)] [(7, _)] rfl ⟨rfl, rfl, rfl, rfl, trivial⟩ ⟨rfl, trivial⟩ ?_
      refine code_block ?_
      refine code_seq ?_
      refine code_seq ?_
      refine code_ops _ rfl ?_
      refine ol_pure rfl rfl rfl (pure_move rfl rfl) ?_
      refine ol_pure rfl rfl rfl (pure_slen rfl Try.underlying9 rfl) ?_
      refine ol_pure rfl rfl rfl (pure_move rfl rfl) ?_
      refine ol_pure rfl rfl rfl (pure_subi rfl rfl rfl (by omega)) ?_
      refine ol_pure rfl rfl rfl (pure_min rfl rfl rfl) ?_
      refine ol_pure rfl rfl rfl (pure_assign rfl rfl) ?_
      refine ol_nil ?_
      refine seq_pick 51 [(1, _), (6, _), (7, _), (8, _), (9, _)] [(7, _)] rfl ⟨rfl, rfl, rfl, rfl, rfl, trivial⟩ ⟨rfl, trivial⟩ ?_
      refine code_block ?_
      refine code_loopM (fun zm zs => ∃ n : Nat, zm = 0 + n ∧ (n ≤ min 4 (s.length - p)) ∧ (matchN a s p (min 4 (s.length - p)) = matchN a s p n) ∧ zs = ⟨51, [(1, .v .mx (sbytes s)), (6, .v .pl (.mp (a.map keyT) ((List.range a.length).map fun n : Nat => int n))), (7, .own 7), (8, .v .pl (int p)), (9, .v .pl (int n))], [(7, .arr 3 (out.map int))]⟩) (loop_init (n := 51) (l := [(1, _), (6, _), (7, _), (8, _), (9, _)]) (o' := [(7, _)]) rfl ⟨rfl, rfl, rfl, rfl, rfl, trivial⟩ ⟨rfl, trivial⟩ ?_) ?_
      · refine ⟨_, min 4 (s.length - p), rfl, Nat.le_refl _, rfl, ?_⟩
        rw [show (if (s.length : Int) - p < 4 then (s.length : Int) - p else 4) = ((min 4 (s.length - p) : Nat) : Int) by split <;> omega]
      · rintro zm zs ⟨n, rfl, hL2_0, hL2_1, rfl⟩
        refine code_seq ?_
        refine code_seq ?_
        refine code_ops _ rfl ?_
        refine ol_pure rfl rfl rfl (pure_move rfl rfl) ?_
        refine ol_pure rfl rfl rfl (pure_gtr rfl rfl rfl) ?_
        refine ol_nil ?_
        refine seq_pick 51 [(1, _), (6, _), (7, _), (8, _), (9, _), (26, _)] [(7, _)] rfl ⟨rfl, rfl, rfl, rfl, rfl, rfl, trivial⟩ ⟨rfl, trivial⟩ ?_
        refine code_cond rfl (fun h2 => ?_) (fun h2 => ?_)
        · try simp only [decide_eq_true_eq, decide_eq_false_iff_not, Bool.not_eq_true', Bool.not_eq_false', Bool.and_eq_true, Bool.or_eq_true, Bool.and_eq_false_iff, List.length_map, Int.toNat_natCast] at h2
          have hcut : (s.drop ((p : Int)).toNat).take (((p : Int) + n).toNat - ((p : Int)).toNat) = (s.drop p).take n := by rw [Int.toNat_natCast, show ((p : Int) + n).toNat - p = n by omega]
          refine code_skip ?_
          refine seq_pick 51 [(1, _), (6, _), (7, _), (8, _), (9, _)] [(7, _)] rfl ⟨rfl, rfl, rfl, rfl, rfl, trivial⟩ ⟨rfl, trivial⟩ ?_
          refine code_seq ?_
          refine code_block ?_
          refine code_seq ?_
          refine code_ops _ rfl ?_
          refine ol_pure rfl rfl rfl (pure_move rfl rfl) ?_
          refine ol_pure rfl rfl rfl (pure_move rfl rfl) ?_
          refine ol_pure rfl rfl rfl (pure_move rfl rfl) ?_
          refine ol_pure rfl rfl rfl (pure_move rfl rfl) ?_
          refine ol_pure rfl rfl rfl (pure_move rfl rfl) ?_
          refine ol_pure rfl rfl rfl (pure_addi rfl rfl rfl (by omega)) ?_
          refine ol_pure rfl rfl rfl (pure_sslice rfl Try.underlying9 rfl rfl rfl (by omega)) ?_
          refine ol_pick 51 [(1, _), (6, _), (7, _), (8, _), (9, _), (30, _), (36, _)] [(7, _)] rfl ⟨rfl, rfl, rfl, rfl, rfl, rfl, rfl, trivial⟩ ⟨rfl, trivial⟩ ?_
          refine ol_pure rfl rfl rfl (pure_mlook2 rfl Try.underlying70 Try.underlying9 zv3 rfl rfl rfl trivial (isKeys a) (look_val _ _) (rfl)) ?_
          refine ol_pure rfl rfl rfl (pure_move rfl rfl) ?_
          refine ol_pure rfl rfl rfl (pure_extract rfl rfl rfl) ?_
          refine ol_pure rfl rfl rfl (pure_extract rfl rfl rfl) ?_
          refine ol_pure rfl rfl rfl (pure_assign rfl rfl) ?_
          refine ol_pure rfl rfl rfl (pure_assign rfl rfl) ?_
          refine ol_nil ?_
          refine seq_pick 51 [(1, _), (6, _), (7, _), (8, _), (9, _), (10, _), (11, _)] [(7, _)] rfl ⟨rfl, rfl, rfl, rfl, rfl, rfl, rfl, trivial⟩ ⟨rfl, trivial⟩ ?_
          refine code_seq ?_
          refine code_ops _ rfl ?_
          refine ol_pure rfl rfl rfl (pure_move rfl rfl) ?_
          refine ol_nil ?_
          refine seq_pick 51 [(1, _), (6, _), (7, _), (8, _), (9, _), (10, _), (40, _)] [(7, _)] rfl ⟨rfl, rfl, rfl, rfl, rfl, rfl, rfl, trivial⟩ ⟨rfl, trivial⟩ ?_
          refine code_cond rfl (fun h3 => ?_) (fun h3 => ?_)
          · try simp only [decide_eq_true_eq, decide_eq_false_iff_not, Bool.not_eq_true', Bool.not_eq_false', Bool.and_eq_true, Bool.or_eq_true, Bool.and_eq_false_iff, List.length_map, Int.toNat_natCast] at h3
            have hm := matchN_hit (a := a) (s := s) (p := p) (n := n) (by omega) (by rw [← hcut]; assumption)
            refine code_seq ?_
            refine code_ops _ rfl ?_
            refine ol_pure rfl rfl rfl (pure_move rfl rfl) ?_
            refine ol_pure rfl rfl rfl (pure_move rfl rfl) ?_
            refine ol_pure rfl rfl rfl (pure_lit rfl Try.underlying22 el3 rfl rfl rfl rfl hM0) ?_
            refine ol_step rfl (step_append rfl rfl rfl rfl Try.underlying22 el3 rfl rfl hM0 (src_pl rfl (one_len (by rfl))) (by simp only [List.length_map, List.length_cons, List.length_nil]; omega) (by simp only [List.length_map, List.length_cons, List.length_nil]; omega)) ?_
            refine ol_pure rfl rfl rfl (pure_assign rfl rfl) ?_
            refine ol_nil ?_
            refine seq_pick 51 [(1, _), (6, _), (7, _), (8, _), (9, _)] [(7, _)] rfl ⟨rfl, rfl, rfl, rfl, rfl, trivial⟩ ⟨rfl, trivial⟩ ?_
            refine code_seq ?_
            refine code_ops _ rfl ?_
            refine ol_pure rfl rfl rfl (pure_move rfl rfl) ?_
            refine ol_pure rfl rfl rfl (pure_move rfl rfl) ?_
            refine ol_pure rfl rfl rfl (pure_addi rfl rfl rfl (by omega)) ?_
            refine ol_pure rfl rfl rfl (pure_assign rfl rfl) ?_
            refine ol_nil ?_
            refine seq_pick 51 [(1, _), (6, _), (7, _), (8, _)] [(7, _)] rfl ⟨rfl, rfl, rfl, rfl, trivial⟩ ⟨rfl, trivial⟩ ?_
            refine code_exit ?_
            refine blockQ_other ?_ rfl
            refine seqQ_exit ?_
            refine loopM_exit ?_
            refine blockQ_other ?_ rfl
            refine seqQ_exit ?_
            refine blockQ_same ?_
            refine loop_next (n := 51) (l := [(1, _), (6, _), (7, _), (8, _)]) (o' := [(7, _)]) rfl ⟨rfl, rfl, rfl, rfl, trivial⟩ ⟨rfl, trivial⟩ ?_   -- loop 1 end 1
            refine ⟨_, ⟨p + n, out ++ [lookI a ((s.drop p).take n)], f - 1, rfl, by omega, by simp only [List.length_append, List.length_cons, List.length_nil]; omega, by omega, ?_, ?_⟩, by omega⟩
            · rw [hL1_3, readF_step (by omega) (by omega) (hL2_1.trans hm)]
            · rw [List.map_append, ← hcut]; rfl
          · try simp only [decide_eq_true_eq, decide_eq_false_iff_not, Bool.not_eq_true', Bool.not_eq_false', Bool.and_eq_true, Bool.or_eq_true, Bool.and_eq_false_iff, List.length_map, Int.toNat_natCast] at h3
            have hm := matchN_miss (a := a) (s := s) (p := p) (n := n) (by omega) (by rw [← hcut]; simp_all)
            refine code_skip ?_
            refine blockQ_normal ?_
            refine seq_pick 51 [(1, _), (6, _), (7, _), (8, _), (9, _)] [(7, _)] rfl ⟨rfl, rfl, rfl, rfl, rfl, trivial⟩ ⟨rfl, trivial⟩ ?_
            refine code_ops _ rfl ?_
            refine ol_pure rfl rfl rfl (pure_move rfl rfl) ?_
            refine ol_pure rfl rfl rfl (pure_subi rfl rfl rfl (by omega)) ?_
            refine ol_pure rfl rfl rfl (pure_assign rfl rfl) ?_
            refine ol_nil ?_
            refine loop_next (n := 51) (l := [(1, _), (6, _), (7, _), (8, _), (9, _)]) (o' := [(7, _)]) rfl ⟨rfl, rfl, rfl, rfl, rfl, trivial⟩ ⟨rfl, trivial⟩ ?_   -- loop 2 end 1
            exact ⟨_, ⟨n - 1, rfl, by omega, hL2_1.trans hm, by rw [show ((n - 1 : Nat) : Int) = (n : Int) - 1 by omega]⟩, by omega⟩
        · try simp only [decide_eq_true_eq, decide_eq_false_iff_not, Bool.not_eq_true', Bool.not_eq_false', Bool.and_eq_true, Bool.or_eq_true, Bool.and_eq_false_iff, List.length_map, Int.toNat_natCast] at h2
          refine code_exit ?_
          refine seqQ_exit ?_
          refine loopM_exit ?_
          refine blockQ_same ?_
          refine seq_pick 51 [(7, _), (8, _)] [(7, _)] rfl ⟨rfl, rfl, trivial⟩ ⟨rfl, trivial⟩ ?_
          refine code_seq ?_
          refine code_ops _ rfl ?_
          refine ol_pure rfl rfl rfl (pure_move rfl rfl) ?_
          refine ol_pure rfl rfl rfl (pure_move rfl rfl) ?_
          refine ol_pure rfl rfl rfl (pure_assign rfl rfl) ?_
          refine ol_pure rfl rfl rfl (pure_assign rfl rfl) ?_
          refine ol_nil ?_
          refine seq_pick 51 [(4, _), (5, _)] [(7, _)] rfl ⟨rfl, rfl, trivial⟩ ⟨rfl, trivial⟩ ?_
          refine code_ret ?_
          refine blockQ_ret ?_
          refine loopM_ret ?_
          refine blockQ_ret ?_
          refine seqQ_ret ?_
          refine scopeQ_ret ?_
          refine end2_ret rfl rfl ?_   -- end 1
          rw [hL1_3, readF_stop (by omega) (by omega) (by rw [hL2_1, show n = 0 by omega]; rfl)]; exact ⟨rfl, rfl⟩
    · try simp only [decide_eq_true_eq, decide_eq_false_iff_not, Bool.not_eq_true', Bool.not_eq_false', Bool.and_eq_true, Bool.or_eq_true, Bool.and_eq_false_iff, List.length_map, Int.toNat_natCast] at h1
      refine code_exit ?_
      refine seqQ_exit ?_
      refine loopM_exit ?_
      refine blockQ_same ?_
      refine seq_pick 51 [(7, _)] [(7, _)] rfl ⟨rfl, trivial⟩ ⟨rfl, trivial⟩ ?_
      refine code_seq ?_
      refine code_ops _ rfl ?_
      refine ol_pure rfl rfl rfl (pure_move rfl rfl) ?_
      refine ol_pure rfl rfl rfl (pure_assign rfl rfl) ?_
      refine ol_pure rfl rfl rfl (pure_assign rfl rfl) ?_
      refine ol_nil ?_
      refine seq_pick 51 [(4, _), (5, _)] [(7, _)] rfl ⟨rfl, rfl, trivial⟩ ⟨rfl, trivial⟩ ?_
      refine code_ret ?_
      refine scopeQ_ret ?_
      refine end2_ret rfl rfl ?_   -- end 2
      rw [hL1_3, readF_end (by omega)]; exact ⟨rfl, rfl⟩
end Go.Proofs.Ytcimmcjnkphagaa
namespace Go.Proofs.Ytcimmcjnkphagaa
open Go.Am Go.Wb
set_option linter.unusedVariables false
set_option linter.unusedSimpArgs false
theorem fn11 : Fn1 Try.prog 11 Try.f11.ntmps 6 (Try.f11.body.getD .skip) := ⟨Try.f11, Try.func11, rfl, rfl, rfl, by kernel_rfl⟩
set_option maxRecDepth 100000 in
set_option maxHeartbeats 8000000 in
theorem bytes_law {l m kk : List Int} (hl : l.length ≤ 9223372036854775807) (hl64 : I64s l) (hm : m.length ≤ 9223372036854775807) (hm64 : I64s m) (hk : kk.length ≤ 9223372036854775807) (hk64 : I64s kk) :
    CallF Try.prog 11 [ints l, ints m, ints kk] (.p (bool true)) := by
  have hLet := letters_call hl hl64
  have hA := lettersP_ok l
  have hA0 := lettersP_len l
  have hV := lettersP_valid l
  have hT : ∀ x ∈ lettersP l, x.text.length ≤ 4 := fun x hx => by have := lettersN_text _ _ _ x hx; omega
  generalize lettersP l = A at hLet hA hA0 hV hT
  have hS1 : shortW (wordsP A m 3) := by
    have h := words_short A m 3 (by decide) []
    rw [show rawP [] = [] from rfl, List.append_nil] at h; exact h
  have hr1 := readP_len A (textP A m)
  have hr2 := readP_len A (textP A kk)
  have hp1 := textP_len hT m
  have hp2 := textP_len hT kk
  have hS2 : shortW (wordsP A m 3 ++ [(readP A (textP A m)).1, (readP A (textP A kk)).1]) := by
    refine ⟨by rw [List.length_append, wordsP, wordsN_len]; simp, fun v hv => ?_⟩
    rcases List.mem_append.1 hv with hv | hv
    · exact hS1.2 v hv
    · simp only [List.mem_cons, List.not_mem_nil, or_false] at hv
      rcases hv with rfl | rfl <;> omega
  refine callF_of_code fn11 (Nat.le_of_ble_eq_true rfl) fun w0 M0 hM0 => ?_
  refine code_seq ?_
  refine code_ops _ rfl ?_
  refine ol_pure rfl rfl rfl (pure_assign rfl rfl) ?_
  refine ol_nil ?_
  refine seq_pick 152 [(0, _), (1, _), (2, _)] [] rfl ⟨rfl, rfl, rfl, trivial⟩ trivial ?_
  refine code_seq ?_
  refine code_ops _ rfl ?_
  refine ol_pure rfl rfl rfl (pure_move rfl rfl) ?_
  refine ol_pure rfl rfl rfl (pure_call rfl rfl rfl (hLet) hM0) ?_
  refine ol_pure rfl rfl rfl (pure_assign rfl rfl) ?_
  refine ol_nil ?_
  refine seq_pick 152 [(1, _), (2, _), (7, _)] [] rfl ⟨rfl, rfl, rfl, trivial⟩ trivial ?_
  refine code_seq ?_
  refine code_ops _ rfl ?_
  refine ol_pure rfl rfl rfl (pure_move rfl rfl) ?_
  refine ol_pure rfl rfl rfl (pure_move rfl rfl) ?_
  refine ol_pure rfl rfl rfl (pure_move rfl rfl) ?_
  refine ol_pure rfl rfl rfl (pure_call rfl rfl rfl (text_call hA.len (by omega) hT (hm64) hm) hM0) ?_
  refine ol_pure rfl rfl rfl (pure_call rfl rfl rfl (read_call hA hV (by have := textP_len hT m; omega)) hM0) ?_
  refine ol_pure rfl rfl rfl (pure_move rfl rfl) ?_
  refine ol_pure rfl rfl rfl (pure_extract rfl rfl rfl) ?_
  refine ol_pure rfl rfl rfl (pure_extract rfl rfl rfl) ?_
  refine ol_pure rfl rfl rfl (pure_assign rfl rfl) ?_
  refine ol_pure rfl rfl rfl (pure_assign rfl rfl) ?_
  refine ol_nil ?_
  refine seq_pick 152 [(1, _), (2, _), (7, _), (8, _), (9, _)] [] rfl ⟨rfl, rfl, rfl, rfl, rfl, trivial⟩ trivial ?_
  refine code_seq ?_
  refine code_ops _ rfl ?_
  refine ol_pure rfl rfl rfl (pure_move rfl rfl) ?_
  refine ol_pure rfl rfl rfl (pure_move rfl rfl) ?_
  refine ol_pure rfl rfl rfl (pure_move rfl rfl) ?_
  refine ol_pure rfl rfl rfl (pure_call rfl rfl rfl (text_call hA.len (by omega) hT (hk64) hk) hM0) ?_
  refine ol_pure rfl rfl rfl (pure_call rfl rfl rfl (read_call hA hV (by have := textP_len hT kk; omega)) hM0) ?_
  refine ol_pure rfl rfl rfl (pure_move rfl rfl) ?_
  refine ol_pure rfl rfl rfl (pure_extract rfl rfl rfl) ?_
  refine ol_pure rfl rfl rfl (pure_extract rfl rfl rfl) ?_
  refine ol_pure rfl rfl rfl (pure_assign rfl rfl) ?_
  refine ol_pure rfl rfl rfl (pure_assign rfl rfl) ?_
  refine ol_nil ?_
  refine seq_pick 152 [(1, _), (7, _), (8, _), (9, _), (10, _), (11, _)] [] rfl ⟨rfl, rfl, rfl, rfl, rfl, rfl, trivial⟩ trivial ?_
  refine code_seq ?_
  refine code_ops _ rfl ?_
  refine ol_pure rfl rfl rfl (pure_move rfl rfl) ?_
  refine ol_pure rfl rfl rfl (pure_move rfl rfl) ?_
  refine ol_step rfl (step_call_own rfl rfl rfl rfl rfl rfl (words_call hA.len (by omega) hm (by decide)) hM0) ?_
  refine ol_pure rfl rfl rfl (pure_assign rfl rfl) ?_
  refine ol_nil ?_
  refine seq_pick 152 [(7, _), (8, _), (9, _), (10, _), (11, _), (12, _)] [(43, _)] rfl ⟨rfl, rfl, rfl, rfl, rfl, rfl, trivial⟩ ⟨rfl, trivial⟩ ?_
  refine code_cut (fun zs => ∃ W : List (List Int), (shortW W) ∧ zs = ⟨152, [(7, .v .pl (letters A)), (12, .own 43)], [(43, .arr 22 (W.map ints))]⟩) ?_ ?_
  · skip
    refine code_seq ?_
    refine code_ops _ rfl ?_
    refine ol_pure rfl rfl rfl (pure_move rfl rfl) ?_
    refine ol_pure rfl rfl rfl (pure_eql rfl rfl rfl) ?_
    refine ol_pure rfl rfl rfl (pure_move rfl rfl) ?_
    refine ol_guard rfl (fun h1 => ?_) (fun h1 => ?_)
    · have h1' := h1; try simp only [decide_eq_true_eq, decide_eq_false_iff_not, Bool.not_eq_true', Bool.not_eq_false', Bool.and_eq_true, Bool.or_eq_true, Bool.and_eq_false_iff, List.length_map, Int.toNat_natCast] at h1'
      refine ol_pure_g rfl rfl h1 rfl rfl (pure_move rfl rfl) ?_
      refine ol_pure_g rfl rfl h1 rfl rfl (pure_eql rfl rfl rfl) ?_
      refine ol_pure rfl rfl rfl (pure_pick_t rfl rfl h1 rfl) ?_
      refine ol_nil ?_
      refine seq_pick 152 [(7, _), (8, _), (10, _), (12, _), (49, _)] [(43, _)] rfl ⟨rfl, rfl, rfl, rfl, rfl, trivial⟩ ⟨rfl, trivial⟩ ?_
      refine code_cond rfl (fun h2 => ?_) (fun h2 => ?_)
      · try simp only [decide_eq_true_eq, decide_eq_false_iff_not, Bool.not_eq_true', Bool.not_eq_false', Bool.and_eq_true, Bool.or_eq_true, Bool.and_eq_false_iff, List.length_map, Int.toNat_natCast] at h2
        refine code_ops _ rfl ?_
        refine ol_pure rfl rfl rfl (pure_move rfl rfl) ?_
        refine ol_pure rfl rfl rfl (pure_move rfl rfl) ?_
        refine ol_pure rfl rfl rfl (pure_move rfl rfl) ?_
        refine ol_pure rfl rfl rfl (pure_lit rfl Try.underlying23 el22 rfl rfl rfl rfl hM0) ?_
        refine ol_step rfl (step_append rfl rfl rfl rfl Try.underlying23 el22 rfl rfl hM0 (src_plm (f := ints) (l := [(readP A (textP A m)).1, (readP A (textP A kk)).1]) rfl (fun _ => rfl)) (by simp only [List.length_map, List.length_cons, List.length_nil]; rw [wordsP, wordsN_len]; decide) (by simp only [List.length_map, List.length_cons, List.length_nil]; rw [wordsP, wordsN_len]; decide)) ?_
        refine ol_pure rfl rfl rfl (pure_assign rfl rfl) ?_
        refine ol_nil ?_
        refine cut_next (n := 152) (l := [(7, _), (12, _)]) (o' := [(43, _)]) rfl ⟨rfl, rfl, trivial⟩ ⟨rfl, trivial⟩ ?_   -- cut 7 end 1
        first | exact ⟨wordsP A m 3 ++ [(readP A (textP A m)).1, (readP A (textP A kk)).1], hS2, by rw [List.map_append]; rfl⟩ | exact ⟨wordsP A m 3, hS1, rfl⟩
      · try simp only [decide_eq_true_eq, decide_eq_false_iff_not, Bool.not_eq_true', Bool.not_eq_false', Bool.and_eq_true, Bool.or_eq_true, Bool.and_eq_false_iff, List.length_map, Int.toNat_natCast] at h2
        refine code_skip ?_
        refine cut_next (n := 152) (l := [(7, _), (12, _)]) (o' := [(43, _)]) rfl ⟨rfl, rfl, trivial⟩ ⟨rfl, trivial⟩ ?_   -- cut 7 end 2
        first | exact ⟨wordsP A m 3 ++ [(readP A (textP A m)).1, (readP A (textP A kk)).1], hS2, by rw [List.map_append]; rfl⟩ | exact ⟨wordsP A m 3, hS1, rfl⟩
    · have h1' := h1; try simp only [decide_eq_true_eq, decide_eq_false_iff_not, Bool.not_eq_true', Bool.not_eq_false', Bool.and_eq_true, Bool.or_eq_true, Bool.and_eq_false_iff, List.length_map, Int.toNat_natCast] at h1'
      refine ol_skip_g rfl rfl h1 rfl rfl ?_
      refine ol_skip_g rfl rfl h1 rfl rfl ?_
      refine ol_pure rfl rfl rfl (pure_pick_f rfl rfl h1 rfl) ?_
      refine ol_nil ?_
      refine seq_pick 152 [(7, _), (8, _), (10, _), (12, _), (49, _)] [(43, _)] rfl ⟨rfl, rfl, rfl, rfl, rfl, trivial⟩ ⟨rfl, trivial⟩ ?_
      refine code_cond_f rfl ?_
      refine code_skip ?_
      refine cut_next (n := 152) (l := [(7, _), (12, _)]) (o' := [(43, _)]) rfl ⟨rfl, rfl, trivial⟩ ⟨rfl, trivial⟩ ?_   -- cut 7 end 3
      first | exact ⟨wordsP A m 3 ++ [(readP A (textP A m)).1, (readP A (textP A kk)).1], hS2, by rw [List.map_append]; rfl⟩ | exact ⟨wordsP A m 3, hS1, rfl⟩
  · rintro zs ⟨W, hC7_0, rfl⟩
    have hW := hC7_0
    have hW1 := hW.1
    have hK := fun k => keyC_short (a := A) (hW.get3 k)
    refine code_seq ?_
    refine code_seq ?_
    refine code_frz 152 [(7, _), (12, _)] [] hM0 rfl ⟨.inl rfl, .inr ⟨_, _, rfl, rfl, rfl⟩, trivial⟩ trivial ?_
    refine code_ops _ rfl ?_
    refine ol_pure rfl rfl rfl (pure_assign rfl rfl) ?_
    refine ol_nil ?_
    refine seq_pick 152 [(7, _), (12, _), (13, _)] [] rfl ⟨rfl, rfl, rfl, trivial⟩ trivial ?_
    refine code_block ?_
    refine code_loopM (fun zm zs => ∃ i : Nat, zm = W.length - i ∧ (i ≤ W.length) ∧ zs = ⟨152, [(7, .v .pl (letters A)), (12, .v .pl (intss W)), (13, .v .pl (int i))], []⟩) (loop_init (n := 152) (l := [(7, _), (12, _), (13, _)]) (o' := []) rfl ⟨rfl, rfl, rfl, trivial⟩ trivial ?_) ?_
    · exact ⟨_, 0, rfl, Nat.zero_le _, rfl⟩
    · rintro zm zs ⟨i, rfl, hL1_0, rfl⟩
      refine code_seq ?_
      refine code_seq ?_
      refine code_ops _ rfl ?_
      refine ol_pure rfl rfl rfl (pure_move rfl rfl) ?_
      refine ol_pure rfl rfl rfl (pure_move rfl rfl) ?_
      refine ol_pure rfl rfl rfl (pure_lenm rfl Try.underlying23 rfl) ?_
      refine ol_pure rfl rfl rfl (pure_lss rfl rfl rfl) ?_
      refine ol_nil ?_
      refine seq_pick 152 [(7, _), (12, _), (13, _), (58, _)] [] rfl ⟨rfl, rfl, rfl, rfl, trivial⟩ trivial ?_
      refine code_cond rfl (fun h3 => ?_) (fun h3 => ?_)
      · try simp only [decide_eq_true_eq, decide_eq_false_iff_not, Bool.not_eq_true', Bool.not_eq_false', Bool.and_eq_true, Bool.or_eq_true, Bool.and_eq_false_iff, List.length_map, Int.toNat_natCast] at h3
        refine code_skip ?_
        refine seq_pick 152 [(7, _), (12, _), (13, _)] [] rfl ⟨rfl, rfl, rfl, trivial⟩ trivial ?_
        refine code_seq ?_
        refine code_block ?_
        refine code_seq ?_
        refine code_ops _ rfl ?_
        refine ol_pure rfl rfl rfl (pure_assign rfl rfl) ?_
        refine ol_nil ?_
        refine seq_pick 152 [(7, _), (12, _), (13, _), (14, _)] [] rfl ⟨rfl, rfl, rfl, rfl, trivial⟩ trivial ?_
        refine code_block ?_
        refine code_loopM (fun zm zs => ∃ j : Nat, zm = W.length - j ∧ (j ≤ W.length) ∧ zs = ⟨152, [(7, .v .pl (letters A)), (12, .v .pl (intss W)), (13, .v .pl (int i)), (14, .v .pl (int j))], []⟩) (loop_init (n := 152) (l := [(7, _), (12, _), (13, _), (14, _)]) (o' := []) rfl ⟨rfl, rfl, rfl, rfl, trivial⟩ trivial ?_) ?_
        · exact ⟨_, 0, rfl, Nat.zero_le _, rfl⟩
        · rintro zm zs ⟨j, rfl, hL2_0, rfl⟩
          refine code_seq ?_
          refine code_seq ?_
          refine code_ops _ rfl ?_
          refine ol_pure rfl rfl rfl (pure_move rfl rfl) ?_
          refine ol_pure rfl rfl rfl (pure_move rfl rfl) ?_
          refine ol_pure rfl rfl rfl (pure_lenm rfl Try.underlying23 rfl) ?_
          refine ol_pure rfl rfl rfl (pure_lss rfl rfl rfl) ?_
          refine ol_nil ?_
          refine seq_pick 152 [(7, _), (12, _), (13, _), (14, _), (64, _)] [] rfl ⟨rfl, rfl, rfl, rfl, rfl, trivial⟩ trivial ?_
          refine code_cond rfl (fun h4 => ?_) (fun h4 => ?_)
          · try simp only [decide_eq_true_eq, decide_eq_false_iff_not, Bool.not_eq_true', Bool.not_eq_false', Bool.and_eq_true, Bool.or_eq_true, Bool.and_eq_false_iff, List.length_map, Int.toNat_natCast] at h4
            refine code_skip ?_
            refine seq_pick 152 [(7, _), (12, _), (13, _), (14, _)] [] rfl ⟨rfl, rfl, rfl, rfl, trivial⟩ trivial ?_
            refine code_seq ?_
            refine code_block ?_
            refine code_seq ?_
            refine code_ops _ rfl ?_
            refine ol_step rfl (step_nil rfl rfl rfl rfl rfl 5 hM0) ?_
            refine ol_nil ?_
            refine seq_pick 152 [(7, _), (12, _), (13, _), (14, _), (15, _)] [(15, _)] rfl ⟨rfl, rfl, rfl, rfl, rfl, trivial⟩ ⟨rfl, trivial⟩ ?_
            refine code_seq ?_
            refine code_ops _ rfl ?_
            refine ol_step rfl (step_nil rfl rfl rfl rfl rfl 5 hM0) ?_
            refine ol_nil ?_
            refine seq_pick 152 [(7, _), (12, _), (13, _), (14, _), (15, _), (16, _)] [(15, _), (16, _)] rfl ⟨rfl, rfl, rfl, rfl, rfl, rfl, trivial⟩ ⟨rfl, rfl, trivial⟩ ?_
            refine code_seq ?_
            refine code_ops _ rfl ?_
            refine ol_pure rfl rfl rfl (pure_move rfl rfl) ?_
            refine ol_pure rfl rfl rfl (pure_move rfl rfl) ?_
            refine ol_pure rfl rfl rfl (pure_move rfl rfl) ?_
            first | refine ol_pure rfl rfl rfl (pure_indexn (f := ints) (l := W) rfl Try.underlying23 sz22 rfl rfl (by omega) (fun _ => rfl)) ?_ | refine ol_pure rfl rfl rfl (pure_indexm (f := ints) (l := W) rfl Try.underlying23 sz22 rfl rfl (by omega) (fun _ => rfl)) ?_
            refine ol_pure rfl rfl rfl (pure_load rfl ag22 rfl rfl) ?_
            refine ol_pure rfl rfl rfl (pure_call rfl rfl rfl (ckey_call hA.len hA.txt (hW.get i)) hM0) ?_
            refine ol_pure rfl rfl rfl (pure_assign rfl rfl) ?_
            refine ol_nil ?_
            refine seq_pick 152 [(7, _), (12, _), (13, _), (14, _), (15, _), (16, _), (17, _)] [(15, _), (16, _)] rfl ⟨rfl, rfl, rfl, rfl, rfl, rfl, rfl, trivial⟩ ⟨rfl, rfl, trivial⟩ ?_
            refine code_seq ?_
            refine code_ops _ rfl ?_
            refine ol_pure rfl rfl rfl (pure_move rfl rfl) ?_
            refine ol_pure rfl rfl rfl (pure_move rfl rfl) ?_
            refine ol_pure rfl rfl rfl (pure_move rfl rfl) ?_
            first | refine ol_pure rfl rfl rfl (pure_indexn (f := ints) (l := W) rfl Try.underlying23 sz22 rfl rfl (by omega) (fun _ => rfl)) ?_ | refine ol_pure rfl rfl rfl (pure_indexm (f := ints) (l := W) rfl Try.underlying23 sz22 rfl rfl (by omega) (fun _ => rfl)) ?_
            refine ol_pure rfl rfl rfl (pure_load rfl ag22 rfl rfl) ?_
            refine ol_pure rfl rfl rfl (pure_call rfl rfl rfl (ckey_call hA.len hA.txt (hW.get j)) hM0) ?_
            refine ol_pure rfl rfl rfl (pure_assign rfl rfl) ?_
            refine ol_nil ?_
            refine seq_pick 152 [(7, _), (12, _), (13, _), (14, _), (15, _), (16, _), (17, _), (18, _)] [(15, _), (16, _)] rfl ⟨rfl, rfl, rfl, rfl, rfl, rfl, rfl, rfl, trivial⟩ ⟨rfl, rfl, trivial⟩ ?_
            refine code_seq ?_
            refine code_seq ?_
            refine code_ops _ rfl ?_
            refine ol_pure rfl rfl rfl (pure_move rfl rfl) ?_
            refine ol_pure rfl rfl rfl (pure_lenm rfl Try.underlying22 rfl) ?_
            refine ol_pure rfl rfl rfl (pure_to (b' := false) (pure_lss rfl rfl rfl) (decide_eq_false (by have := keyC_len3 hV (W.getD i default); omega))) ?_
            refine ol_pure rfl rfl rfl (pure_move rfl rfl) ?_
            refine ol_pure_g rfl rfl rfl rfl rfl (pure_move rfl rfl) ?_
            refine ol_pure_g rfl rfl rfl rfl rfl (pure_lenm rfl Try.underlying22 rfl) ?_
            refine ol_pure_g rfl rfl rfl rfl rfl (pure_to (b' := false) (pure_lss rfl rfl rfl) (decide_eq_false (by have := keyC_len3 hV (W.getD j default); omega))) ?_
            refine ol_pure rfl rfl rfl (pure_pick_f rfl rfl rfl rfl) ?_
            refine ol_nil ?_
            refine seq_pick 152 [(7, _), (12, _), (13, _), (14, _), (15, _), (16, _), (17, _), (18, _), (86, _)] [(15, _), (16, _)] rfl ⟨rfl, rfl, rfl, rfl, rfl, rfl, rfl, rfl, rfl, trivial⟩ ⟨rfl, rfl, trivial⟩ ?_
            refine code_cond_f rfl ?_
            refine code_skip ?_
            refine seq_pick 152 [(7, _), (12, _), (13, _), (14, _), (15, _), (16, _), (17, _), (18, _)] [(15, _), (16, _)] rfl ⟨rfl, rfl, rfl, rfl, rfl, rfl, rfl, rfl, trivial⟩ ⟨rfl, rfl, trivial⟩ ?_
            refine code_seq ?_
            refine code_seq ?_
            refine code_ops _ rfl ?_
            refine ol_pure rfl rfl rfl (pure_assign rfl rfl) ?_
            refine ol_nil ?_
            refine seq_pick 152 [(7, _), (12, _), (13, _), (14, _), (15, _), (16, _), (17, _), (18, _), (19, _)] [(15, _), (16, _)] rfl ⟨rfl, rfl, rfl, rfl, rfl, rfl, rfl, rfl, rfl, trivial⟩ ⟨rfl, rfl, trivial⟩ ?_
            refine code_block ?_
            refine code_loopM (fun zm zs => ∃ n : Nat, zm = (keyC A (W.getD i default)).length - n ∧ (n ≤ (keyC A (W.getD i default)).length) ∧ zs = ⟨152, [(7, .v .pl (letters A)), (12, .v .pl (intss W)), (13, .v .pl (int i)), (14, .v .pl (int j)), (15, .own 15), (16, .own 16), (17, .v .pl (ints (keyC A (W.getD i default)))), (18, .v .pl (ints (keyC A (W.getD j default)))), (19, .v .pl (int n))], [(15, .arr 5 ((wbL ((keyC A (W.getD i default)).take n)).map byteI)), (16, .arr 5 [])]⟩) (loop_init (n := 152) (l := [(7, _), (12, _), (13, _), (14, _), (15, _), (16, _), (17, _), (18, _), (19, _)]) (o' := [(15, _), (16, _)]) rfl ⟨rfl, rfl, rfl, rfl, rfl, rfl, rfl, rfl, rfl, trivial⟩ ⟨rfl, rfl, trivial⟩ ?_) ?_
            · exact ⟨_, 0, rfl, Nat.zero_le _, rfl⟩
            · rintro zm zs ⟨n, rfl, hL3_0, rfl⟩
              have hKi := hK i
              refine code_seq ?_
              refine code_seq ?_
              refine code_ops _ rfl ?_
              refine ol_pure rfl rfl rfl (pure_move rfl rfl) ?_
              refine ol_pure rfl rfl rfl (pure_move rfl rfl) ?_
              refine ol_pure rfl rfl rfl (pure_lenm rfl Try.underlying22 rfl) ?_
              refine ol_pure rfl rfl rfl (pure_lss rfl rfl rfl) ?_
              refine ol_nil ?_
              refine seq_pick 152 [(7, _), (12, _), (13, _), (14, _), (15, _), (16, _), (17, _), (18, _), (19, _), (90, _)] [(15, _), (16, _)] rfl ⟨rfl, rfl, rfl, rfl, rfl, rfl, rfl, rfl, rfl, rfl, trivial⟩ ⟨rfl, rfl, trivial⟩ ?_
              refine code_cond rfl (fun h5 => ?_) (fun h5 => ?_)
              · try simp only [decide_eq_true_eq, decide_eq_false_iff_not, Bool.not_eq_true', Bool.not_eq_false', Bool.and_eq_true, Bool.or_eq_true, Bool.and_eq_false_iff, List.length_map, Int.toNat_natCast] at h5
                refine code_skip ?_
                refine seq_pick 152 [(7, _), (12, _), (13, _), (14, _), (15, _), (16, _), (17, _), (18, _), (19, _)] [(15, _), (16, _)] rfl ⟨rfl, rfl, rfl, rfl, rfl, rfl, rfl, rfl, rfl, trivial⟩ ⟨rfl, rfl, trivial⟩ ?_
                refine code_seq ?_
                refine code_block ?_
                refine code_ops _ rfl ?_
                refine ol_pure rfl rfl rfl (pure_move rfl rfl) ?_
                refine ol_pure rfl rfl rfl (pure_move rfl rfl) ?_
                refine ol_pure rfl rfl rfl (pure_move rfl rfl) ?_
                first | refine ol_pure rfl rfl rfl (pure_indexn (f := int) (l := (keyC A (W.getD i default))) rfl Try.underlying22 sz3 rfl rfl (by omega) (fun _ => rfl)) ?_ | refine ol_pure rfl rfl rfl (pure_indexm (f := int) (l := (keyC A (W.getD i default))) rfl Try.underlying22 sz3 rfl rfl (by omega) (fun _ => rfl)) ?_
                refine ol_pure rfl rfl rfl (pure_load rfl ag3 rfl rfl) ?_
                refine ol_pure rfl rfl rfl (pure_call rfl rfl rfl (int_call (keyC_get hV _ _)) hM0) ?_
                refine ol_step rfl (step_append rfl rfl rfl rfl Try.underlying53 el5 rfl rfl hM0 (src_scm rfl (fun _ => ⟨_, rfl⟩)) (by have := wbL_len ((keyC A (W.getD i default)).take n); have := wbE_len ((keyC A (W.getD i default)).getD n default); have := hK i; simp only [List.length_map, List.length_take] at *; omega) (by have := wbL_len ((keyC A (W.getD i default)).take n); have := wbE_len ((keyC A (W.getD i default)).getD n default); have := hK i; simp only [List.length_map, List.length_take] at *; omega)) ?_
                refine ol_pure rfl rfl rfl (pure_assign rfl rfl) ?_
                refine ol_nil ?_
                refine blockQ_normal ?_
                refine seq_pick 152 [(7, _), (12, _), (13, _), (14, _), (15, _), (16, _), (17, _), (18, _), (19, _)] [(15, _), (16, _)] rfl ⟨rfl, rfl, rfl, rfl, rfl, rfl, rfl, rfl, rfl, trivial⟩ ⟨rfl, rfl, trivial⟩ ?_
                refine code_ops _ rfl ?_
                refine ol_pure rfl rfl rfl (pure_move rfl rfl) ?_
                refine ol_pure rfl rfl rfl (pure_addi rfl rfl rfl (by omega)) ?_
                refine ol_pure rfl rfl rfl (pure_assign rfl rfl) ?_
                refine ol_nil ?_
                refine loop_next (n := 152) (l := [(7, _), (12, _), (13, _), (14, _), (15, _), (16, _), (17, _), (18, _), (19, _)]) (o' := [(15, _), (16, _)]) rfl ⟨rfl, rfl, rfl, rfl, rfl, rfl, rfl, rfl, rfl, trivial⟩ ⟨rfl, rfl, trivial⟩ ?_   -- loop 3 end 1
                exact ⟨_, ⟨n + 1, rfl, by omega, by rw [take_succ (by omega), wbL_snoc, List.map_append]; rfl⟩, by omega⟩
              · try simp only [decide_eq_true_eq, decide_eq_false_iff_not, Bool.not_eq_true', Bool.not_eq_false', Bool.and_eq_true, Bool.or_eq_true, Bool.and_eq_false_iff, List.length_map, Int.toNat_natCast] at h5
                refine code_exit ?_
                refine seqQ_exit ?_
                refine loopM_exit ?_
                refine blockQ_same ?_
                refine seq_pick 152 [(7, _), (12, _), (13, _), (14, _), (15, _), (16, _), (18, _)] [(15, _), (16, _)] rfl ⟨rfl, rfl, rfl, rfl, rfl, rfl, rfl, trivial⟩ ⟨rfl, rfl, trivial⟩ ?_
                refine code_seq ?_
                refine code_seq ?_
                refine code_ops _ rfl ?_
                refine ol_pure rfl rfl rfl (pure_assign rfl rfl) ?_
                refine ol_nil ?_
                refine seq_pick 152 [(7, _), (12, _), (13, _), (14, _), (15, _), (16, _), (18, _), (20, _)] [(15, _), (16, _)] rfl ⟨rfl, rfl, rfl, rfl, rfl, rfl, rfl, rfl, trivial⟩ ⟨rfl, rfl, trivial⟩ ?_
                refine code_block ?_
                refine code_loopM (fun zm zs => ∃ n : Nat, zm = (keyC A (W.getD j default)).length - n ∧ (n ≤ (keyC A (W.getD j default)).length) ∧ zs = ⟨152, [(7, .v .pl (letters A)), (12, .v .pl (intss W)), (13, .v .pl (int i)), (14, .v .pl (int j)), (15, .own 15), (16, .own 16), (18, .v .pl (ints (keyC A (W.getD j default)))), (20, .v .pl (int n))], [(15, .arr 5 ((wbL (keyC A (W.getD i default))).map byteI)), (16, .arr 5 ((wbL ((keyC A (W.getD j default)).take n)).map byteI))]⟩) (loop_init (n := 152) (l := [(7, _), (12, _), (13, _), (14, _), (15, _), (16, _), (18, _), (20, _)]) (o' := [(15, _), (16, _)]) rfl ⟨rfl, rfl, rfl, rfl, rfl, rfl, rfl, rfl, trivial⟩ ⟨rfl, rfl, trivial⟩ ?_) ?_
                · refine ⟨_, 0, rfl, Nat.zero_le _, ?_⟩
                  rw [List.take_of_length_le (by omega)]; rfl
                · rintro zm zs ⟨n, rfl, hL4_0, rfl⟩
                  have hKj := hK j
                  refine code_seq ?_
                  refine code_seq ?_
                  refine code_ops _ rfl ?_
                  refine ol_pure rfl rfl rfl (pure_move rfl rfl) ?_
                  refine ol_pure rfl rfl rfl (pure_move rfl rfl) ?_
                  refine ol_pure rfl rfl rfl (pure_lenm rfl Try.underlying22 rfl) ?_
                  refine ol_pure rfl rfl rfl (pure_lss rfl rfl rfl) ?_
                  refine ol_nil ?_
                  refine seq_pick 152 [(7, _), (12, _), (13, _), (14, _), (15, _), (16, _), (18, _), (20, _), (103, _)] [(15, _), (16, _)] rfl ⟨rfl, rfl, rfl, rfl, rfl, rfl, rfl, rfl, rfl, trivial⟩ ⟨rfl, rfl, trivial⟩ ?_
                  refine code_cond rfl (fun h6 => ?_) (fun h6 => ?_)
                  · try simp only [decide_eq_true_eq, decide_eq_false_iff_not, Bool.not_eq_true', Bool.not_eq_false', Bool.and_eq_true, Bool.or_eq_true, Bool.and_eq_false_iff, List.length_map, Int.toNat_natCast] at h6
                    refine code_skip ?_
                    refine seq_pick 152 [(7, _), (12, _), (13, _), (14, _), (15, _), (16, _), (18, _), (20, _)] [(15, _), (16, _)] rfl ⟨rfl, rfl, rfl, rfl, rfl, rfl, rfl, rfl, trivial⟩ ⟨rfl, rfl, trivial⟩ ?_
                    refine code_seq ?_
                    refine code_block ?_
                    refine code_ops _ rfl ?_
                    refine ol_pure rfl rfl rfl (pure_move rfl rfl) ?_
                    refine ol_pure rfl rfl rfl (pure_move rfl rfl) ?_
                    refine ol_pure rfl rfl rfl (pure_move rfl rfl) ?_
                    first | refine ol_pure rfl rfl rfl (pure_indexn (f := int) (l := (keyC A (W.getD j default))) rfl Try.underlying22 sz3 rfl rfl (by omega) (fun _ => rfl)) ?_ | refine ol_pure rfl rfl rfl (pure_indexm (f := int) (l := (keyC A (W.getD j default))) rfl Try.underlying22 sz3 rfl rfl (by omega) (fun _ => rfl)) ?_
                    refine ol_pure rfl rfl rfl (pure_load rfl ag3 rfl rfl) ?_
                    refine ol_pure rfl rfl rfl (pure_call rfl rfl rfl (int_call (keyC_get hV _ _)) hM0) ?_
                    refine ol_step rfl (step_append rfl rfl rfl rfl Try.underlying53 el5 rfl rfl hM0 (src_scm rfl (fun _ => ⟨_, rfl⟩)) (by have := wbL_len ((keyC A (W.getD j default)).take n); have := wbE_len ((keyC A (W.getD j default)).getD n default); have := hK j; simp only [List.length_map, List.length_take] at *; omega) (by have := wbL_len ((keyC A (W.getD j default)).take n); have := wbE_len ((keyC A (W.getD j default)).getD n default); have := hK j; simp only [List.length_map, List.length_take] at *; omega)) ?_
                    refine ol_pure rfl rfl rfl (pure_assign rfl rfl) ?_
                    refine ol_nil ?_
                    refine blockQ_normal ?_
                    refine seq_pick 152 [(7, _), (12, _), (13, _), (14, _), (15, _), (16, _), (18, _), (20, _)] [(15, _), (16, _)] rfl ⟨rfl, rfl, rfl, rfl, rfl, rfl, rfl, rfl, trivial⟩ ⟨rfl, rfl, trivial⟩ ?_
                    refine code_ops _ rfl ?_
                    refine ol_pure rfl rfl rfl (pure_move rfl rfl) ?_
                    refine ol_pure rfl rfl rfl (pure_addi rfl rfl rfl (by omega)) ?_
                    refine ol_pure rfl rfl rfl (pure_assign rfl rfl) ?_
                    refine ol_nil ?_
                    refine loop_next (n := 152) (l := [(7, _), (12, _), (13, _), (14, _), (15, _), (16, _), (18, _), (20, _)]) (o' := [(15, _), (16, _)]) rfl ⟨rfl, rfl, rfl, rfl, rfl, rfl, rfl, rfl, trivial⟩ ⟨rfl, rfl, trivial⟩ ?_   -- loop 4 end 1
                    exact ⟨_, ⟨n + 1, rfl, by omega, by rw [take_succ (by omega), wbL_snoc, List.map_append]; rfl⟩, by omega⟩
                  · try simp only [decide_eq_true_eq, decide_eq_false_iff_not, Bool.not_eq_true', Bool.not_eq_false', Bool.and_eq_true, Bool.or_eq_true, Bool.and_eq_false_iff, List.length_map, Int.toNat_natCast] at h6
                    refine code_exit ?_
                    refine seqQ_exit ?_
                    refine loopM_exit ?_
                    refine blockQ_same ?_
                    refine seq_pick 152 [(7, _), (12, _), (13, _), (14, _), (15, _), (16, _)] [(15, _), (16, _)] rfl ⟨rfl, rfl, rfl, rfl, rfl, rfl, trivial⟩ ⟨rfl, rfl, trivial⟩ ?_
                    refine code_seq ?_
                    rw [List.take_of_length_le (by omega)]
                    refine code_draw mixed (by kernel_rfl) _ rfl ?_
                    refine dl_pure rfl rfl rfl (pure_move rfl rfl) ?_
                    refine dl_pure rfl rfl rfl (pure_move rfl rfl) ?_
                    refine dl_pure rfl rfl rfl (pure_move rfl rfl) ?_
                    first | refine dl_pure rfl rfl rfl (pure_indexn (f := ints) (l := W) rfl Try.underlying23 sz22 rfl rfl (by omega) (fun _ => rfl)) ?_ | refine dl_pure rfl rfl rfl (pure_indexm (f := ints) (l := W) rfl Try.underlying23 sz22 rfl rfl (by omega) (fun _ => rfl)) ?_
                    refine dl_pure rfl rfl rfl (pure_load rfl ag22 rfl rfl) ?_
                    refine dl_pure rfl rfl rfl (pure_move rfl rfl) ?_
                    refine dl_pure rfl rfl rfl (pure_move rfl rfl) ?_
                    refine dl_pick 152 [(7, _), (12, _), (13, _), (14, _), (15, _), (16, _), (113, _), (117, _), (118, _), (119, _)] [(15, _), (16, _)] rfl rfl ⟨rfl, rfl, rfl, rfl, rfl, rfl, rfl, rfl, rfl, rfl, trivial⟩ ?_
                    first | refine dl_pure rfl rfl rfl (pure_indexn (f := ints) (l := W) rfl Try.underlying23 sz22 rfl rfl (by omega) (fun _ => rfl)) ?_ | refine dl_pure rfl rfl rfl (pure_indexm (f := ints) (l := W) rfl Try.underlying23 sz22 rfl rfl (by omega) (fun _ => rfl)) ?_
                    refine dl_pure rfl rfl rfl (pure_load rfl ag22 rfl rfl) ?_
                    refine dl_pure rfl rfl rfl (pure_call rfl rfl rfl (ccompare_call hA.len hA.txt (hW.get i) (hW.get j)) hM0) ?_
                    refine dl_pure rfl rfl rfl (pure_lss rfl rfl rfl) ?_
                    refine dl_pure rfl rfl rfl (pure_assign rfl rfl) ?_
                    refine dl_nil ?_
                    refine seq_pick 152 [(7, _), (12, _), (13, _), (14, _), (15, _), (16, _), (21, _)] [(15, _), (16, _)] rfl ⟨rfl, rfl, rfl, rfl, rfl, rfl, rfl, trivial⟩ ⟨rfl, rfl, trivial⟩ ?_
                    refine code_seq ?_
                    refine code_draw mixed (by kernel_rfl) _ rfl ?_
                    refine dl_pure rfl rfl rfl (pure_move rfl rfl) ?_
                    refine dl_pure rfl rfl rfl (pure_move rfl rfl) ?_
                    refine dl_pure rfl rfl rfl (pure_move rfl rfl) ?_
                    first | refine dl_pure rfl rfl rfl (pure_indexn (f := ints) (l := W) rfl Try.underlying23 sz22 rfl rfl (by omega) (fun _ => rfl)) ?_ | refine dl_pure rfl rfl rfl (pure_indexm (f := ints) (l := W) rfl Try.underlying23 sz22 rfl rfl (by omega) (fun _ => rfl)) ?_
                    refine dl_pure rfl rfl rfl (pure_load rfl ag22 rfl rfl) ?_
                    refine dl_pure rfl rfl rfl (pure_move rfl rfl) ?_
                    refine dl_pure rfl rfl rfl (pure_move rfl rfl) ?_
                    refine dl_pick 152 [(7, _), (12, _), (13, _), (14, _), (15, _), (16, _), (21, _), (124, _), (128, _), (129, _), (130, _)] [(15, _), (16, _)] rfl rfl ⟨rfl, rfl, rfl, rfl, rfl, rfl, rfl, rfl, rfl, rfl, rfl, trivial⟩ ?_
                    first | refine dl_pure rfl rfl rfl (pure_indexn (f := ints) (l := W) rfl Try.underlying23 sz22 rfl rfl (by omega) (fun _ => rfl)) ?_ | refine dl_pure rfl rfl rfl (pure_indexm (f := ints) (l := W) rfl Try.underlying23 sz22 rfl rfl (by omega) (fun _ => rfl)) ?_
                    refine dl_pure rfl rfl rfl (pure_load rfl ag22 rfl rfl) ?_
                    refine dl_pure rfl rfl rfl (pure_call rfl rfl rfl (ccompare_call hA.len hA.txt (hW.get i) (hW.get j)) hM0) ?_
                    refine dl_pure rfl rfl rfl (pure_eql rfl rfl rfl) ?_
                    refine dl_pure rfl rfl rfl (pure_assign rfl rfl) ?_
                    refine dl_nil ?_
                    refine seq_pick 152 [(7, _), (12, _), (13, _), (14, _), (15, _), (16, _), (21, _), (22, _)] [(15, _), (16, _)] rfl ⟨rfl, rfl, rfl, rfl, rfl, rfl, rfl, rfl, trivial⟩ ⟨rfl, rfl, trivial⟩ ?_
                    refine code_seq ?_
                    refine code_ops _ rfl ?_
                    refine ol_pure rfl rfl rfl (pure_move rfl rfl) ?_
                    refine ol_pure rfl rfl rfl (pure_move rfl rfl) ?_
                    refine ol_pure rfl rfl rfl (pure_btosm rfl Try.underlying53 Try.underlying5 Try.underlying9 rfl) ?_
                    refine ol_pure rfl rfl rfl (pure_move rfl rfl) ?_
                    refine ol_pure rfl rfl rfl (pure_btosm rfl Try.underlying53 Try.underlying5 Try.underlying9 rfl) ?_
                    refine ol_pure rfl rfl rfl (pure_slss rfl rfl rfl) ?_
                    refine ol_pure rfl rfl rfl (pure_to (b' := false) (pure_bne Try.underlying4 rfl rfl rfl) (by rw [enc_less hV]; simp)) ?_
                    refine ol_pick 152 [(7, _), (12, _), (13, _), (14, _), (15, _), (16, _), (22, _), (141, _)] [(15, _), (16, _)] rfl ⟨rfl, rfl, rfl, rfl, rfl, rfl, rfl, rfl, trivial⟩ ⟨rfl, rfl, trivial⟩ ?_
                    refine ol_pure rfl rfl rfl (pure_move rfl rfl) ?_
                    refine ol_pure_g rfl rfl rfl rfl rfl (pure_move rfl rfl) ?_
                    refine ol_pure_g rfl rfl rfl rfl rfl (pure_move rfl rfl) ?_
                    refine ol_pure_g rfl rfl rfl rfl rfl (pure_btosm rfl Try.underlying53 Try.underlying5 Try.underlying9 rfl) ?_
                    refine ol_pure_g rfl rfl rfl rfl rfl (pure_move rfl rfl) ?_
                    refine ol_pure_g rfl rfl rfl rfl rfl (pure_btosm rfl Try.underlying53 Try.underlying5 Try.underlying9 rfl) ?_
                    refine ol_pure_g rfl rfl rfl rfl rfl (pure_seql rfl rfl rfl) ?_
                    refine ol_pure_g rfl rfl rfl rfl rfl (pure_to (b' := false) (pure_bne Try.underlying4 rfl rfl rfl) (by have h : decide ((wbL (keyC A (W.getD i default))).map b8 = (wbL (keyC A (W.getD j default))).map b8) = decide (order (keyC A (W.getD i default)) (keyC A (W.getD j default)) = 0) := decide_eq_decide.2 (enc_same hV _ _); rw [h]; simp)) ?_
                    refine ol_pure rfl rfl rfl (pure_pick_f rfl rfl rfl rfl) ?_
                    refine ol_nil ?_
                    refine seq_pick 152 [(7, _), (12, _), (13, _), (14, _), (150, _)] [] rfl ⟨rfl, rfl, rfl, rfl, rfl, trivial⟩ trivial ?_
                    refine code_cond_f rfl ?_
                    refine code_skip ?_
                    refine blockQ_normal ?_
                    refine seq_pick 152 [(7, _), (12, _), (13, _), (14, _)] [] rfl ⟨rfl, rfl, rfl, rfl, trivial⟩ trivial ?_
                    refine code_ops _ rfl ?_
                    refine ol_pure rfl rfl rfl (pure_move rfl rfl) ?_
                    refine ol_pure rfl rfl rfl (pure_addi rfl rfl rfl (by omega)) ?_
                    refine ol_pure rfl rfl rfl (pure_assign rfl rfl) ?_
                    refine ol_nil ?_
                    refine loop_next (n := 152) (l := [(7, _), (12, _), (13, _), (14, _)]) (o' := []) rfl ⟨rfl, rfl, rfl, rfl, trivial⟩ trivial ?_   -- loop 2 end 1
                    exact ⟨_, ⟨j + 1, rfl, by omega, rfl⟩, by omega⟩
          · try simp only [decide_eq_true_eq, decide_eq_false_iff_not, Bool.not_eq_true', Bool.not_eq_false', Bool.and_eq_true, Bool.or_eq_true, Bool.and_eq_false_iff, List.length_map, Int.toNat_natCast] at h4
            refine code_exit ?_
            refine seqQ_exit ?_
            refine loopM_exit ?_
            refine blockQ_same ?_
            refine blockQ_normal ?_
            refine seq_pick 152 [(7, _), (12, _), (13, _)] [] rfl ⟨rfl, rfl, rfl, trivial⟩ trivial ?_
            refine code_ops _ rfl ?_
            refine ol_pure rfl rfl rfl (pure_move rfl rfl) ?_
            refine ol_pure rfl rfl rfl (pure_addi rfl rfl rfl (by omega)) ?_
            refine ol_pure rfl rfl rfl (pure_assign rfl rfl) ?_
            refine ol_nil ?_
            refine loop_next (n := 152) (l := [(7, _), (12, _), (13, _)]) (o' := []) rfl ⟨rfl, rfl, rfl, trivial⟩ trivial ?_   -- loop 1 end 1
            exact ⟨_, ⟨i + 1, rfl, by omega, rfl⟩, by omega⟩
      · try simp only [decide_eq_true_eq, decide_eq_false_iff_not, Bool.not_eq_true', Bool.not_eq_false', Bool.and_eq_true, Bool.or_eq_true, Bool.and_eq_false_iff, List.length_map, Int.toNat_natCast] at h3
        refine code_exit ?_
        refine seqQ_exit ?_
        refine loopM_exit ?_
        refine blockQ_same ?_
        refine seq_pick 152 [] [] rfl trivial trivial ?_
        refine code_seq ?_
        refine code_ops _ rfl ?_
        refine ol_pure rfl rfl rfl (pure_call rfl rfl rfl (lives_call) hM0) ?_
        refine ol_pure rfl rfl rfl (pure_assign rfl rfl) ?_
        refine ol_nil ?_
        refine seq_pick 152 [(6, _)] [] rfl ⟨rfl, trivial⟩ trivial ?_
        refine code_ret ?_
        refine end_ret rfl ?_   -- end 1
        rfl
/-! The statement CollateBytesSaid. -/
namespace collateBytes
open Go.ChangeShapes Go.WideShapes Go.ChangeAt Go.RowKit Go.Am
theorem own : ownKnob Try.prog.godebug = none := by kernel_rfl
set_option maxRecDepth 100000 in
theorem lifted (os : Os) (started : os.Started) (H : Type) (enc : TypeId × Value → H) :
    ReturnsInHanded {} Try.checked os 11 .any (Rows.collateBytesSpec.pre6 enc Try.prog Try.f11 Rows.collateBytesRow.domain false) (Rows.collateBytesSpec.post enc Try.prog Try.f11 false true false false) := by
  refine returnsInHanded_of_change (C := Try.checked) own started (by kernel_rfl) Try.func11
    (ChangeSpec.witness6 (enc := enc) (C := Try.checked) false ⟨#[], #[.slice none 0 0, .slice none 0 0, .slice none 0 0], []⟩ 8 (by kernel_rfl) (by kernel_rfl) (by kernel_rfl) (by kernel_rfl)) ?_
  intro W base args ds gs before hval0 hW hcnd _
  have hval : ∀ (j : Nat) t v, Try.f11.params[j]? = some t → args[j]? = some v → Value.okWide Try.prog W .any base t v := hval0
  have hW' := hW
  obtain ⟨p, q, hA0, hV, rfl, hfz, hnd⟩ := hW
  have hA : DataW.TrodAll enc Try.prog W 0 (fun _ => true) true Try.f11.params.toList args.toList ds p := hA0
  rw [Try.params11] at hA hval
  obtain ⟨v0, vs0, d0, ds0, p0, q0, hargs, rfl, rfl, h0, r0⟩ := trodAll_cons hA
  obtain ⟨v1, vs1, d1, ds1, p1, q1, rfl, rfl, rfl, h1, r1⟩ := trodAll_cons r0
  obtain ⟨v2, vs2, d2, ds2, p2, q2, rfl, rfl, rfl, h2, r2⟩ := trodAll_cons r1
  obtain ⟨rfl, rfl, rfl⟩ := trodAll_nil r2
  obtain rfl : args = #[v0, v1, v2] := by cases args; simp_all
  obtain ⟨x0, y0, z0, e0⟩ := open_intsA Try.underlying22 Try.underlying3 sz3 (hval 0 22 v0 rfl rfl) h0
  obtain ⟨x1, y1, z1, e1⟩ := open_intsA Try.underlying22 Try.underlying3 sz3 (hval 1 22 v1 rfl rfl) h1
  obtain ⟨x2, y2, z2, e2⟩ := open_intsA Try.underlying22 Try.underlying3 sz3 (hval 2 22 v2 rfl rfl) h2
  have hcall := (bytes_law z0 y0 z1 y1 z2 y2).use (w := W) (vs := [v0, v1, v2]) ⟨e0, e1, e2, trivial⟩
  exact law_post (tb := 4) (by kernel_rfl) (by kernel_rfl) (by kernel_rfl) Try.underlying4 rfl rfl hW' hcall
theorem over : Rows.collateBytesRow.holds Try.pinned (OpenSpec.ofChange Rows.collateBytesSpec) :=
  OpenClaim.holds_of_wide 11 Try.f11 rfl rfl rfl rfl rfl rfl rfl ⟨rfl, rfl, rfl, rfl, rfl⟩ rfl rfl rfl rfl rfl (by kernel_rfl) Try.func11 (by kernel_rfl)
    (of_decide_eq_true (by kernel_rfl)) (by unfold Func.isWrapper; first | (rw [if_pos (by decide +kernel)]; kernel_rfl) | (rw [if_neg (by decide +kernel)]; exact ⟨rfl, rfl⟩))
    (fun os started H enc _ => lifted os started H enc)
end collateBytes
theorem collateBytes_holds : Rows.CollateBytesSaid := collateBytes.over
end Go.Proofs.Ytcimmcjnkphagaa
