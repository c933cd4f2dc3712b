/-
  Plain functions: the tokens of a pattern are fit to be read; reading a pattern.
-/
import Derived.Test.YtgdehkimfmfofaaGreatJ11
import Derived.Test.YtgdehkimfmfofaaGreatJ15
import Derived.Test.YtgdehkimfmfofaaGreatJ14
import Derived.Test.YtgdehkimfmfofaaGreatJ17
import Derived.Lib.IndexAny
set_option linter.unusedVariables false
set_option linter.unusedSimpArgs false
namespace Go.Am
open Go.RowKit
set_option linter.unusedVariables false
section
variable {P : Program} {w0 : Fr} {M0 : Nat → Prop}
theorem pure_nilbox {o : Oper} {ρ : Operand → Option SV} {ob : List (Nat × Ob)} {x : Operand} {id off : Nat} {e : TypeId} {cs : List SV} (ho : o.op = .nilCheck x) (hx : ρ x = some (.pbox id off)) (hl : ob.lookup id = some (.box e cs)) : Pure P w0 M0 o ρ ob (.pbox id off) :=
  pure_value fun E w ev hw h => by
    have hr := h x _ hx e cs hl
    refine ⟨_, w, by simp only [execOp, ho, hr, Sem.run_pure], .refl _ _, fun e' cs' h' => rfl⟩
def endOC (t k : Nat) (r : SV) (o' : List (Nat × Ob)) : Exit → St → Prop
  | .normal, s | .ret, s => (s.s.lookup t).bind (boxV s.o k) = some r ∧ ∀ id ob, o'.lookup id = some ob → s.o.lookup id = some ob
  | _, _ => False
theorem callO_of_codeC {f n t k : Nat} {T : TypeId} {c : Code} (hf : FnC P f n t T k c) {args : List SV} {o o' : List (Nat × Ob)} {r : SV} (hn : args.length ≤ n)
    (h : ∀ (w0 : Fr) (M0 : Nat → Prop), (∀ b, M0 b → b < w0.w.heap.size) → CodeOk P w0 M0 c (St.enterS n args o) (endOC t k r o')) : CallO P f args o r o' := by
  refine ⟨hf.callable, fun w0 M0 E w vs hM0 hw hv hr => ?_⟩
  obtain ⟨fn, h1, h2, h3, h4, h5, h6, h7⟩ := hf
  refine (calls_coreG h1 h2 h3 (R := fun v E' s' w' => WOk P w0 M0 E' o' w' ∧ SVok P M0 w' E' o' v r) hn vs hv hw hr (h w0 M0 hM0) (fun e s' a' w' E' hq hs => ?_)).mono fun e w' ⟨v, E', s', he, hR⟩ => ⟨v, E', he, hR⟩
  have fin : ((s'.s.lookup t).bind (boxV s'.o k) = some r ∧ ∀ id ob, o'.lookup id = some ob → s'.o.lookup id = some ob) → ∃ v, (results fn a'.tmps).run P w' = .ok v w' ∧ WOk P w0 M0 E' o' w' ∧ SVok P M0 w' E' o' v r := fun ⟨hb, q2⟩ => by
    rw [Option.bind_eq_some_iff] at hb
    obtain ⟨sv, hl, hb⟩ := hb
    obtain ⟨v, g1, g2⟩ := run_load_box_agg h6 h7 hs.wok (hs.slots t sv hl).2 hb
    refine ⟨v, ?_, hs.wok.fewer q2, g2.fewer q2⟩
    simp [results, h4, Sem.run_bind]
    simpa using g1
  cases e with
  | normal => exact ⟨.inl rfl, fin hq⟩
  | ret => exact ⟨.inr rfl, fin hq⟩
  | exit _ => exact hq.elim
  | goto _ => exact hq.elim
  | panic _ => exact hq.elim
  | outgrown => exact hq.elim
theorem endOC_ret {t k : Nat} {r r1 : SV} {o' o1 : List (Nat × Ob)} {s : St} (h : (s.s.lookup t).bind (boxV s.o k) = some r1) (ho : HasO s o1) (e : r1 = r ∧ o1 = o') : endOC t k r o' .ret s := by
  obtain ⟨rfl, rfl⟩ := e
  exact ⟨h, ho.out⟩
def FnC2 (P : Program) (f : FuncId) (n t : Nat) (T : TypeId) (k u : Nat) (c : Code) : Prop := ∃ fn, P.funcs[f]? = some fn ∧ fn.body = some c ∧ fn.ntmps = n ∧ fn.results = #[.cell t T, .tmp u] ∧ (fn.name == "runtime.NumGoroutine") = false ∧ isAggOf P T = some true ∧ szOf P T = some k
theorem FnC2.callable {f n t k u : Nat} {T : TypeId} {c : Code} (h : FnC2 P f n t T k u c) : Callable P f := by
  obtain ⟨fn, h1, h2, _, _, h5, _⟩ := h
  exact ⟨fn, h1, h5, by rw [h2]; rfl⟩
def endC2 (t k u : Nat) (r r' : AV) : Exit → St → Prop
  | .normal, s | .ret, s => (∃ q, ((s.s.lookup t).bind (boxV s.o k)).bind (retOf s.o) = some q ∧ q.data = r) ∧ (∃ q, (s.s.lookup u).bind (retOf s.o) = some q ∧ q.data = r')
  | _, _ => False
theorem callF_of_codeC2 {f n t k u : Nat} {T : TypeId} {c : Code} (hf : FnC2 P f n t T k u c) {ds : List AV} {r r' : AV} (hn : ds.length ≤ n)
    (h : ∀ (w0 : Fr) (M0 : Nat → Prop), (∀ b, M0 b → b < w0.w.heap.size) → CodeOk P w0 M0 c (St.enter n .mx ds) (endC2 t k u r r')) : CallF P f ds (.p (.tup [r, r'])) := by
  refine ⟨hf.callable, fun w vs hv hr => ?_⟩
  have h0 := h (Fr.all w) (fun b => b < w.heap.size) (fun b hb => hb)
  rw [enter_eq] at h0
  obtain ⟨fn, h1, h2, h3, h4, h5, h6, h7⟩ := hf
  refine (calls_coreG h1 h2 h3 (R := fun v E' s' w' => Below w.heap.size w w' ∧ RVok P w' (fun b => b < w.heap.size) (fun b => b < w.heap.size) v (.p (.tup [r, r']))) (by simpa using hn) vs (by simpa using hv) wok_nil (fun j d hd => ?_) h0 (fun e s' a' w' E' hq hs => ?_)).mono fun e w' ⟨v, E', s', he, hR⟩ => ⟨v, he, hR⟩
  · rw [List.getElem?_map, Option.map_eq_some_iff] at hd
    obtain ⟨a, ha, rfl⟩ := hd
    have := hr j a ha
    simp only [SVok, owned_nil]
    exact this
  · have fin : ((∃ q, ((s'.s.lookup t).bind (boxV s'.o k)).bind (retOf s'.o) = some q ∧ q.data = r) ∧ (∃ q, (s'.s.lookup u).bind (retOf s'.o) = some q ∧ q.data = r')) →
        ∃ v, (results fn a'.tmps).run P w' = .ok v w' ∧ Below w.heap.size w w' ∧ RVok P w' (fun b => b < w.heap.size) (fun b => b < w.heap.size) v (.p (.tup [r, r'])) := by
      rintro ⟨⟨q1, hb, hd1⟩, ⟨q2, hu, hd2⟩⟩
      rw [Option.bind_eq_some_iff] at hb
      obtain ⟨sv', hb, hret⟩ := hb
      rw [Option.bind_eq_some_iff] at hb
      obtain ⟨sv, hl, hb⟩ := hb
      rw [Option.bind_eq_some_iff] at hu
      obtain ⟨su, hlu, hretu⟩ := hu
      obtain ⟨v, g1, g2⟩ := run_load_box_agg h6 h7 hs.wok (hs.slots t sv hl).2 hb
      have r1 := (retOf_ok hs.wok g2 hret).rep (fun b hb => hb)
      have r2 := (retOf_ok hs.wok (hs.slots u su hlu).2 hretu).rep (fun b hb => hb)
      rw [hd1] at r1; rw [hd2] at r2
      refine ⟨.tuple #[v, a'.tmps.getD u undef], ?_, hs.wok.below.below, .tup [v, a'.tmps.getD u undef] [r, r'] rfl (fun j d hd => by
        match j, hd with
        | 0, hd => simp at hd; subst hd; exact r1
        | 1, hd => simp at hd; subst hd; exact r2
        | j + 2, hd => simp at hd)⟩
      have g1' : ((Sem.run P (asAddr (a'.tmps[t]?.getD undef)) w').andThen fun x w => Sem.run P (loadVar T x) w) = .ok v w' := by simpa using g1
      simp [results, h4, Sem.run_bind]
      revert g1'
      cases Sem.run P (asAddr (a'.tmps[t]?.getD undef)) w' with
      | ok a w2 => intro g; simp only [Result.andThen_ok] at g ⊢; rw [g]; rfl
      | _ => intro g; exact absurd g (by simp [Result.andThen])
    cases e with
    | normal => exact ⟨.inl rfl, fin hq⟩
    | ret => exact ⟨.inr rfl, fin hq⟩
    | exit _ => exact hq.elim
    | goto _ => exact hq.elim
    | panic _ => exact hq.elim
    | outgrown => exact hq.elim
theorem endC2_ret {t k u : Nat} {r r' : AV} {s : St} {q q' : RV} (h : ((s.s.lookup t).bind (boxV s.o k)).bind (retOf s.o) = some q) (h' : (s.s.lookup u).bind (retOf s.o) = some q') (e : q.data = r ∧ q'.data = r') : endC2 t k u r r' .ret s := ⟨⟨q, h, e.1⟩, ⟨q', h', e.2⟩⟩
end
end Go.Am

namespace Go.Wc
open Go.Am
abbrev byte (c : UInt8) : AV := .sc (.int .u8 c.toNat)
abbrev resL : List UInt8 := [48, 49, 50, 51, 52, 53, 54, 55, 56, 57, 45, 35, 46, 124, 40, 41, 42, 63, 123, 125, 62, 47, 95, 126, 59, 58, 44, 61, 34, 64]
def resB (c : UInt8) : Bool := resL.contains c || decide (c.toNat < 33)
def plainT (s : List UInt8) : Bool := s.all (fun c => !resB c) && decide (1 ≤ s.length) && decide (s.length ≤ 4)
theorem plainT_hit {s : List UInt8} {k : Nat} (hk : k < s.length) (h : resB (s.getD k 0) = true) : plainT s = false := by
  unfold plainT
  have : s.all (fun c => !resB c) = false := by
    rw [List.all_eq_false]
    refine ⟨s[k], List.getElem_mem hk, ?_⟩
    rw [List.getD_eq_getElem?_getD, List.getElem?_eq_getElem hk] at h
    simp only [Option.getD_some] at h
    simp [h]
  rw [this]; rfl
theorem plainT_step {s : List UInt8} {k : Nat} (hk : k < s.length) (h0 : (s.take k).all (fun c => !resB c) = true) (h : resB (s.getD k 0) = false) : (s.take (k + 1)).all (fun c => !resB c) = true := by
  rw [take_succ hk, List.all_append, h0]
  have h2 : s.getD k default = s.getD k 0 := rfl
  rw [h2, List.all_cons, h]; rfl
theorem plainT_end {s : List UInt8} {k : Nat} (hk : s.length ≤ k) (h0 : (s.take k).all (fun c => !resB c) = true) : plainT s = (decide (1 ≤ s.length) && decide (s.length ≤ 4)) := by
  rw [List.take_of_length_le hk] at h0
  unfold plainT
  rw [h0, Bool.true_and]

def ok1P (a : List Letter) (x : Letter) : Prop :=
  plainT x.text = true ∧ 0 ≤ x.base ∧ x.base < a.length ∧ (a.getD x.base.toNat default).base = x.base ∧ 0 ≤ x.mark ∧ x.mark ≤ 15 ∧ 0 ≤ x.cap ∧ x.cap ≤ 1 ∧ 1 ≤ x.width ∧ x.width ≤ 1000
def ok2P (x : Letter) (i : Nat) : Prop := x.base = i → x.mark = 0 ∧ x.cap = 0
def ok3P (a : List Letter) (i : Nat) : Prop := ∀ k, k < i → (a.getD k default).text ≠ (a.getD i default).text
def okP (a : List Letter) (i : Nat) : Prop := ok1P a (a.getD i default) ∧ ok2P (a.getD i default) i ∧ ok3P a i
instance (a : List Letter) (x : Letter) : Decidable (ok1P a x) := by unfold ok1P; infer_instance
instance (x : Letter) (i : Nat) : Decidable (ok2P x i) := by unfold ok2P; infer_instance
instance (a : List Letter) (i : Nat) : Decidable (ok3P a i) := by unfold ok3P; infer_instance
instance (a : List Letter) (i : Nat) : Decidable (okP a i) := by unfold okP; infer_instance
def validP (a : List Letter) : Prop := (1 ≤ a.length ∧ a.length ≤ 60) ∧ ∀ i, i < a.length → okP a i
instance (a : List Letter) : Decidable (validP a) := by unfold validP; infer_instance
def validA (a : List Letter) : Bool := decide (validP a)
theorem validA_size {a : List Letter} (h : a.length < 1 ∨ 60 < a.length) : validA a = false := by
  unfold validA; rw [decide_eq_false]; rintro ⟨h1, _⟩; omega
theorem validA_bad1 {a : List Letter} {i : Nat} (hi : i < a.length) (h : ¬ ok1P a (a.getD i default)) : validA a = false := by
  unfold validA; rw [decide_eq_false]; rintro ⟨_, h2⟩; exact h (h2 i hi).1
theorem validA_bad2 {a : List Letter} {i : Nat} (hi : i < a.length) (h : ¬ ok2P (a.getD i default) i) : validA a = false := by
  unfold validA; rw [decide_eq_false]; rintro ⟨_, h2⟩; exact h (h2 i hi).2.1
theorem validA_good {a : List Letter} {n : Nat} (h1 : 1 ≤ a.length ∧ a.length ≤ 60) (hn : a.length ≤ n) (h : ∀ i, i < n → okP a i) : validA a = true := by
  unfold validA; rw [decide_eq_true]; exact ⟨h1, fun i hi => h i (by omega)⟩
theorem lt_step {p : Nat → Prop} {k : Nat} (h : ∀ j, j < k → p j) (hk : p k) : ∀ j, j < k + 1 → p j := by
  intro j hj
  by_cases he : j = k
  · subst he; exact hk
  · exact h j (by omega)
abbrev lcells (c : Cls) (x : Letter) : List SV := [.v c (sbytes x.text), .v c (int x.base), .v c (int x.mark), .v c (int x.cap), .v c (int x.width)]
end Go.Wc

namespace Go.Wb
set_option linter.unusedVariables false
open Go.Am Go.Wc
structure SetT where
  name : List UInt8
  syms : List Int
instance : Inhabited SetT := ⟨⟨[], []⟩⟩
abbrev setA (x : SetT) : AV := .agg [sbytes x.name, ints x.syms]
abbrev setsA (l : List SetT) : AV := .sl (l.map setA)
def preB (s t : List UInt8) : Bool := decide (t.length ≤ s.length) && decide (s.take t.length = t)
theorem indexByte_lt : ∀ {l : List UInt8} {c : UInt8}, Lib.indexByte l c < l.length ∧ -1 ≤ Lib.indexByte l c
  | [], c => by unfold Lib.indexByte; exact ⟨by decide, by decide⟩
  | b :: l, c => by
    have h := indexByte_lt (l := l) (c := c)
    unfold Lib.indexByte
    rw [List.length_cons]
    split
    · omega
    · split <;> omega
def cutB (s : List UInt8) (c : UInt8) : List UInt8 := if 0 ≤ Lib.indexByte s c then s.take (Lib.indexByte s c).toNat else s
def cutA (s : List UInt8) (c : UInt8) : List UInt8 := if 0 ≤ Lib.indexByte s c then s.drop (Lib.indexByte s c + 1).toNat else []
def bestN (a : List Letter) (t : List UInt8) : Nat → Nat × Nat
  | 0 => (0, 0)
  | i + 1 => if (bestN a t i).2 < (a.getD i default).text.length ∧ preB t (a.getD i default).text = true then (i, (a.getD i default).text.length) else bestN a t i
def oneR (l : List Int) : Rx := .mk 2 l []
def nameB (t : List UInt8) : List UInt8 := cutB (t.drop 1) 125
def tokAt (a : List Letter) (sets : List SetT) (t : List UInt8) : Int × Rx × Nat :=
  if 0 < (bestN a t a.length).2 then (97, oneR [((bestN a t a.length).1 : Int)], (bestN a t a.length).2)
  else if ((t.getD 0 default).toNat : Int) = 46 then (97, oneR ((List.range a.length).map fun (k : Nat) => (k : Int)), 1)
  else if ((t.getD 0 default).toNat : Int) = 45 then (97, oneR [63], 1)
  else if ((t.getD 0 default).toNat : Int) = 35 then (97, oneR [62], 1)
  else if 0 ≤ Lib.indexByte [124, 40, 41, 42, 63] (t.getD 0 default) then (((t.getD 0 default).toNat : Int), noneRx, 1)
  else if ((t.getD 0 default).toNat : Int) ≠ 123 ∨ Lib.indexByte (t.drop 1) 125 < 0 then (0, noneRx, 0)
  else if nameB t = [] then (97, noneRx, 2)
  else if 0 ≤ idxF (fun x : SetT => decide (x.name = nameB t)) sets ∧ setOk (sets.getD (idxF (fun x : SetT => decide (x.name = nameB t)) sets).toNat default).syms = true then
    (97, oneR (sets.getD (idxF (fun x : SetT => decide (x.name = nameB t)) sets).toNat default).syms, (nameB t).length + 2)
  else (0, noneRx, 0)
def tokN (a : List Letter) (sets : List SetT) (s : List UInt8) : Nat → Nat → List Tok
  | 0, at_ => [⟨101, noneRx, at_⟩]
  | n + 1, at_ => if at_ < s.length then (if (tokAt a sets (s.drop at_)).1 = 0 then [⟨0, noneRx, at_⟩] else ⟨(tokAt a sets (s.drop at_)).1, (tokAt a sets (s.drop at_)).2.1, at_⟩ :: tokN a sets s n (at_ + (tokAt a sets (s.drop at_)).2.2)) else [⟨101, noneRx, at_⟩]
def toksP (a : List Letter) (sets : List SetT) (s : List UInt8) : List Tok := tokN a sets s s.length 0
section
variable {a : List Letter} {sets : List SetT} {s t : List UInt8}
theorem tokN_end {n k : Nat} (h : s.length ≤ k) : tokN a sets s n k = [⟨101, noneRx, k⟩] := by
  cases n with
  | zero => rfl
  | succ n => rw [tokN, if_neg (by omega)]
theorem tokN_bad {n k : Nat} (h : k < s.length) (h0 : (tokAt a sets (s.drop k)).1 = 0) : tokN a sets s (n + 1) k = [⟨0, noneRx, k⟩] := by rw [tokN, if_pos h, if_pos h0]
theorem tokN_ok {n k m : Nat} {c : Int} {x : Rx} (h : k < s.length) (h1 : tokAt a sets (s.drop k) = (c, x, m)) (h0 : c ≠ 0) : tokN a sets s (n + 1) k = ⟨c, x, k⟩ :: tokN a sets s n (k + m) := by
  rw [tokN, if_pos h, h1, if_neg h0]
theorem bestN_lt : ∀ i, (bestN a t i).2 = 0 ∧ (bestN a t i).1 = 0 ∨ (bestN a t i).1 < i
  | 0 => .inl ⟨rfl, rfl⟩
  | i + 1 => by
    rw [bestN]
    split
    · exact .inr (Nat.lt_succ_self i)
    · rcases bestN_lt i with h | h
      · exact .inl h
      · exact .inr (by omega)
theorem bestN_yes {i : Nat} (h : (bestN a t i).2 < (a.getD i default).text.length) (h2 : preB t (a.getD i default).text = true) : bestN a t (i + 1) = (i, (a.getD i default).text.length) := by
  rw [bestN, if_pos ⟨h, h2⟩]
theorem bestN_no {i : Nat} (h : ¬ ((bestN a t i).2 < (a.getD i default).text.length ∧ preB t (a.getD i default).text = true)) : bestN a t (i + 1) = bestN a t i := by
  rw [bestN, if_neg h]
theorem tokAt_best (h : 0 < (bestN a t a.length).2) : tokAt a sets t = (97, oneR [((bestN a t a.length).1 : Int)], (bestN a t a.length).2) := if_pos h
section
variable (hb : ¬ 0 < (bestN a t a.length).2)
theorem tokAt_dot (hb : ¬ 0 < (bestN a t a.length).2) (h : ((t.getD 0 default).toNat : Int) = 46) : tokAt a sets t = (97, oneR ((List.range a.length).map fun (k : Nat) => (k : Int)), 1) := by unfold tokAt; rw [if_neg hb, if_pos h]
theorem tokAt_minus (hb : ¬ 0 < (bestN a t a.length).2) (h1 : ¬ ((t.getD 0 default).toNat : Int) = 46) (h : ((t.getD 0 default).toNat : Int) = 45) : tokAt a sets t = (97, oneR [63], 1) := by unfold tokAt; rw [if_neg hb, if_neg h1, if_pos h]
theorem tokAt_hash (hb : ¬ 0 < (bestN a t a.length).2) (h1 : ¬ ((t.getD 0 default).toNat : Int) = 46) (h2 : ¬ ((t.getD 0 default).toNat : Int) = 45) (h : ((t.getD 0 default).toNat : Int) = 35) : tokAt a sets t = (97, oneR [62], 1) := by unfold tokAt; rw [if_neg hb, if_neg h1, if_neg h2, if_pos h]
theorem tokAt_mark (hb : ¬ 0 < (bestN a t a.length).2) (h1 : ¬ ((t.getD 0 default).toNat : Int) = 46) (h2 : ¬ ((t.getD 0 default).toNat : Int) = 45) (h3 : ¬ ((t.getD 0 default).toNat : Int) = 35) (h : 0 ≤ Lib.indexByte [124, 40, 41, 42, 63] (t.getD 0 default)) :
    tokAt a sets t = (((t.getD 0 default).toNat : Int), noneRx, 1) := by unfold tokAt; rw [if_neg hb, if_neg h1, if_neg h2, if_neg h3, if_pos h]
theorem tokAt_rest (hb : ¬ 0 < (bestN a t a.length).2) (h1 : ¬ ((t.getD 0 default).toNat : Int) = 46) (h2 : ¬ ((t.getD 0 default).toNat : Int) = 45) (h3 : ¬ ((t.getD 0 default).toNat : Int) = 35) (h4 : ¬ 0 ≤ Lib.indexByte [124, 40, 41, 42, 63] (t.getD 0 default)) :
    tokAt a sets t = if ((t.getD 0 default).toNat : Int) ≠ 123 ∨ Lib.indexByte (t.drop 1) 125 < 0 then (0, noneRx, 0) else if nameB t = [] then (97, noneRx, 2)
      else if 0 ≤ idxF (fun x : SetT => decide (x.name = nameB t)) sets ∧ setOk (sets.getD (idxF (fun x : SetT => decide (x.name = nameB t)) sets).toNat default).syms = true then
        (97, oneR (sets.getD (idxF (fun x : SetT => decide (x.name = nameB t)) sets).toNat default).syms, (nameB t).length + 2) else (0, noneRx, 0) := by
  unfold tokAt; rw [if_neg hb, if_neg h1, if_neg h2, if_neg h3, if_neg h4]
end
end
theorem idxF_lt {α : Type} [Inhabited α] {p : α → Bool} {l : List α} : idxF p l < l.length := by
  unfold idxF
  split
  · next h =>
    obtain ⟨x, hx, hp⟩ := List.any_eq_true.1 h
    have := List.findIdx_lt_length_of_exists ⟨x, hx, hp⟩
    omega
  · omega
theorem preB_len {s t : List UInt8} (h : preB s t = true) : t.length ≤ s.length := by
  unfold preB at h; rw [Bool.and_eq_true, decide_eq_true_eq] at h; exact h.1
theorem bestN_le (a : List Letter) (t : List UInt8) : ∀ i, (bestN a t i).2 ≤ t.length
  | 0 => Nat.zero_le _
  | i + 1 => by
    rw [bestN]
    split
    · next h => exact preB_len h.2
    · exact bestN_le a t i
theorem cutB_nil {s : List UInt8} {c : UInt8} (h : 0 ≤ Lib.indexByte s c) : (cutB s c).length = (Lib.indexByte s c).toNat := by
  have := indexByte_lt (l := s) (c := c)
  unfold cutB; rw [if_pos h, List.length_take]; omega
theorem cutB_le {s : List UInt8} {c : UInt8} : (cutB s c).length ≤ s.length := by
  unfold cutB; split
  · rw [List.length_take]; omega
  · exact Nat.le_refl _
theorem mark_ne {c : UInt8} (h : 0 ≤ Lib.indexByte [124, 40, 41, 42, 63] c) : ((c.toNat : Nat) : Int) ≠ 0 := fun e => by
  have e1 : c.toNat = 0 := by omega
  have e2 : c = 0 := UInt8.toNat_inj.1 e1
  subst e2
  revert h; decide
theorem tokAt_len {a : List Letter} {sets : List SetT} {t : List UInt8} (h : 0 < t.length) : (tokAt a sets t).2.2 ≤ t.length := by
  have hb := bestN_le a t a.length
  have hx := indexByte_lt (l := t.drop 1) (c := 125)
  rw [List.length_drop] at hx
  unfold tokAt
  split
  · exact hb
  · split
    · exact h
    · split
      · exact h
      · split
        · exact h
        · split
          · exact h
          · split
            · exact Nat.zero_le _
            · next hc =>
              have hn : (nameB t).length = (Lib.indexByte (t.drop 1) 125).toNat := cutB_nil (by omega)
              split
              · show 2 ≤ t.length; omega
              · split
                · show (nameB t).length + 2 ≤ t.length; omega
                · exact Nat.zero_le _
theorem tk_next {a : List Letter} {sets : List SetT} {s : List UInt8} {k n m : Nat} {c : Int} {x : Rx} {acc L : List Tok} (hk : k < s.length) (hn : s.length - k ≤ n) (hacc : acc ++ tokN a sets s n k = L) (hl : acc.length ≤ k)
    (h : tokAt a sets (s.drop k) = (c, x, m)) (h0 : c ≠ 0) (hm : 0 < m) : k + m ≤ s.length ∧ s.length - (k + m) ≤ n - 1 ∧ (acc ++ [⟨c, x, k⟩]) ++ tokN a sets s (n - 1) (k + m) = L ∧ (acc ++ [(⟨c, x, k⟩ : Tok)]).length ≤ k + m := by
  have h1 := tokAt_len (a := a) (sets := sets) (t := s.drop k) (by rw [List.length_drop]; omega)
  rw [h, List.length_drop] at h1
  have h1' : m ≤ s.length - k := h1
  refine ⟨by omega, by omega, ?_, by simp; omega⟩
  obtain ⟨n, rfl⟩ : ∃ n', n = n' + 1 := ⟨n - 1, by omega⟩
  rw [← hacc, tokN_ok hk h h0, List.append_assoc]; rfl
theorem tk_bad {a : List Letter} {sets : List SetT} {s : List UInt8} {k n : Nat} {acc L : List Tok} (hk : k < s.length) (hn : s.length - k ≤ n) (hacc : acc ++ tokN a sets s n k = L) (h0 : (tokAt a sets (s.drop k)).1 = 0) : acc ++ [⟨0, noneRx, k⟩] = L := by
  obtain ⟨n, rfl⟩ : ∃ n', n = n' + 1 := ⟨n - 1, by omega⟩
  rw [← hacc, tokN_bad hk h0]
theorem tk_end {a : List Letter} {sets : List SetT} {s : List UInt8} {k n : Nat} {acc L : List Tok} (hk : s.length ≤ k) (hacc : acc ++ tokN a sets s n k = L) : acc ++ [⟨101, noneRx, k⟩] = L := by rw [← hacc, tokN_end hk]
end Go.Wb

namespace Go.Am
open Go.RowKit
set_option linter.unusedVariables false
section
variable {P : Program} {w0 : Fr} {M0 : Nat → Prop}
def Fn3 (P : Program) (f : FuncId) (n t u v : Nat) (c : Code) : Prop := ∃ fn, P.funcs[f]? = some fn ∧ fn.body = some c ∧ fn.ntmps = n ∧ fn.results = #[.tmp t, .tmp u, .tmp v] ∧ (fn.name == "runtime.NumGoroutine") = false
theorem Fn3.callable {f n t u v : Nat} {c : Code} (h : Fn3 P f n t u v c) : Callable P f := by
  obtain ⟨fn, h1, h2, _, _, h5⟩ := h
  exact ⟨fn, h1, h5, by rw [h2]; rfl⟩
def endQ3 (t u v : Nat) (r r' r'' : AV) : Exit → St → Prop
  | .normal, s | .ret, s => (∃ q, (s.s.lookup t).bind (retOf s.o) = some q ∧ q.data = r) ∧ (∃ q, (s.s.lookup u).bind (retOf s.o) = some q ∧ q.data = r') ∧ (∃ q, (s.s.lookup v).bind (retOf s.o) = some q ∧ q.data = r'')
  | _, _ => False
theorem callF_of_code3 {f n t u v : Nat} {c : Code} (hf : Fn3 P f n t u v c) {ds : List AV} {r r' r'' : AV} (hn : ds.length ≤ n)
    (h : ∀ (w0 : Fr) (M0 : Nat → Prop), (∀ b, M0 b → b < w0.w.heap.size) → CodeOk P w0 M0 c (St.enter n .mx ds) (endQ3 t u v r r' r'')) : CallF P f ds (.p (.tup [r, r', r''])) := by
  refine ⟨hf.callable, fun w vs hv hr => ?_⟩
  have h0 := h (Fr.all w) (fun b => b < w.heap.size) (fun b hb => hb)
  rw [enter_eq] at h0
  obtain ⟨fn, h1, h2, h3, h4, h5⟩ := hf
  refine (calls_coreG h1 h2 h3 (R := fun v E' s' w' => Below w.heap.size w w' ∧ RVok P w' (fun b => b < w.heap.size) (fun b => b < w.heap.size) v (.p (.tup [r, r', r'']))) (by simpa using hn) vs (by simpa using hv) wok_nil (fun j d hd => ?_) h0 (fun e s' a' w' E' hq hs => ?_)).mono fun e w' ⟨v, E', s', he, hR⟩ => ⟨v, he, hR⟩
  · rw [List.getElem?_map, Option.map_eq_some_iff] at hd
    obtain ⟨a, ha, rfl⟩ := hd
    have := hr j a ha
    simp only [SVok, owned_nil]
    exact this
  · have fin : ((∃ q, (s'.s.lookup t).bind (retOf s'.o) = some q ∧ q.data = r) ∧ (∃ q, (s'.s.lookup u).bind (retOf s'.o) = some q ∧ q.data = r') ∧ (∃ q, (s'.s.lookup v).bind (retOf s'.o) = some q ∧ q.data = r'')) →
        ∃ v, (results fn a'.tmps).run P w' = .ok v w' ∧ Below w.heap.size w w' ∧ RVok P w' (fun b => b < w.heap.size) (fun b => b < w.heap.size) v (.p (.tup [r, r', r''])) := by
      rintro ⟨⟨q1, hq1, hd1⟩, ⟨q2, hq2, hd2⟩, ⟨q3, hq3, hd3⟩⟩
      have one : ∀ x q, (s'.s.lookup x).bind (retOf s'.o) = some q → Rep w' (fun b => b < w.heap.size) (a'.tmps.getD x undef) q.data := by
        intro x q hx
        cases hl : s'.s.lookup x with
        | none => rw [hl] at hx; cases hx
        | some sv =>
          rw [hl] at hx
          exact (retOf_ok hs.wok (hs.slots x sv hl).2 hx).rep (fun b hb => hb)
      have r1 := one t q1 hq1
      have r2 := one u q2 hq2
      have r3 := one v q3 hq3
      rw [hd1] at r1; rw [hd2] at r2; rw [hd3] at r3
      refine ⟨.tuple #[a'.tmps.getD t undef, a'.tmps.getD u undef, a'.tmps.getD v undef], by simp [results, h4], hs.wok.below.below, .tup [a'.tmps.getD t undef, a'.tmps.getD u undef, a'.tmps.getD v undef] [r, r', r''] rfl (fun j d hd => by
        match j, hd with
        | 0, hd => simp at hd; subst hd; exact r1
        | 1, hd => simp at hd; subst hd; exact r2
        | 2, hd => simp at hd; subst hd; exact r3
        | j + 3, hd => simp at hd)⟩
    cases e with
    | normal => exact ⟨.inl rfl, fin hq⟩
    | ret => exact ⟨.inr rfl, fin hq⟩
    | exit _ => exact hq.elim
    | goto _ => exact hq.elim
    | panic _ => exact hq.elim
    | outgrown => exact hq.elim
theorem end3_ret {t u v : Nat} {r r' r'' : AV} {s : St} {q q' q'' : RV} (h : (s.s.lookup t).bind (retOf s.o) = some q) (h' : (s.s.lookup u).bind (retOf s.o) = some q') (h'' : (s.s.lookup v).bind (retOf s.o) = some q'') (e : q.data = r ∧ q'.data = r' ∧ q''.data = r'') : endQ3 t u v r r' r'' .ret s := ⟨⟨q, h, e.1⟩, ⟨q', h', e.2.1⟩, ⟨q'', h'', e.2.2⟩⟩
end
end Go.Am

namespace Go.Wc
open Go.Am Go.MapKept
abbrev keyT (x : Letter) : Value := .string ⟨x.text.toArray⟩
theorem keyT_inj {x y : Letter} : keyT x = keyT y ↔ x.text = y.text := by simp [keyT]
noncomputable def ixK (a : List Letter) : Nat → List Value
  | 0 => []
  | i + 1 => putK (ixK a i) (keyT (a.getD i default))
noncomputable def ixV (a : List Letter) : Nat → List AV
  | 0 => []
  | i + 1 => putV (ixK a i) (ixV a i) (keyT (a.getD i default)) (int i)
theorem ixK_isKey (a : List Letter) : ∀ i, ∀ u ∈ ixK a i, IsKey .string u
  | 0, u, h => by cases h
  | i + 1, u, h => by
    unfold ixK putK at h
    split at h
    · exact ixK_isKey a i u h
    · rw [List.mem_append] at h
      rcases h with h | h
      · exact ixK_isKey a i u h
      · simp only [List.mem_singleton] at h; subst h; trivial
theorem ixK_len (a : List Letter) : ∀ i, (ixK a i).length ≤ i
  | 0 => Nat.le_refl _
  | i + 1 => by
    have := ixK_len a i
    unfold ixK putK
    split
    · omega
    · simp; omega
theorem ixK_full {a : List Letter} : ∀ {i : Nat}, i ≤ a.length → (ixK a i).length = i → ixK a i = (a.take i).map keyT ∧ ixV a i = (List.range i).map (fun n : Nat => int n) ∧ ∀ j, j < i → ok3P a j
  | 0, _, _ => ⟨rfl, rfl, fun j hj => by omega⟩
  | i + 1, hi, h => by
    have hl := ixK_len a i
    unfold ixK putK at h
    unfold ixK ixV putK putV
    cases hp : kpos (ixK a i) (keyT (a.getD i default)) with
    | some j => rw [hp] at h; simp only [] at h; omega
    | none =>
      rw [hp] at h
      simp only [List.length_append, List.length_singleton] at h
      obtain ⟨h1, h2, h3⟩ := ixK_full (by omega : i ≤ a.length) (by omega)
      refine ⟨by rw [h1, take_succ (by omega), List.map_append]; rfl, by rw [h2, List.range_succ, List.map_append]; rfl, fun j hj => ?_⟩
      by_cases he : j = i
      · subst he
        intro k hk he
        have hn := kpos_none.1 hp
        rw [h1] at hn
        refine hn (List.mem_map.2 ⟨a.getD k default, ?_, keyT_inj.2 he⟩)
        rw [List.getD_eq_getElem?_getD, List.getElem?_eq_getElem (by omega)]
        exact List.mem_take_iff_getElem.2 ⟨k, by omega, rfl⟩
      · exact h3 j (by omega)
theorem ixK_not {a : List Letter} : ∀ {i : Nat}, i ≤ a.length → (ixK a i).length < i → ∃ j, j < i ∧ ¬ ok3P a j
  | 0, _, h => by omega
  | i + 1, hi, h => by
    rcases Nat.lt_or_ge (ixK a i).length i with h1 | h1
    · obtain ⟨j, hj, hn⟩ := ixK_not (by omega : i ≤ a.length) h1
      exact ⟨j, by omega, hn⟩
    · have hl := ixK_len a i
      obtain ⟨g1, _, _⟩ := ixK_full (by omega : i ≤ a.length) (by omega)
      unfold ixK putK at h
      cases hp : kpos (ixK a i) (keyT (a.getD i default)) with
      | none => rw [hp] at h; simp only [List.length_append, List.length_singleton] at h; omega
      | some q =>
        have hm := List.mem_of_getElem? (kpos_some hp)
        rw [g1, List.mem_map] at hm
        obtain ⟨x, hx, he⟩ := hm
        obtain ⟨k, hk, rfl⟩ := List.mem_take_iff_getElem.1 hx
        refine ⟨i, by omega, fun hok => hok k (by omega) ?_⟩
        rw [List.getD_eq_getElem?_getD (i := k), List.getElem?_eq_getElem (by omega)]
        exact keyT_inj.1 he
def indexAV (a : List Letter) : AV := if validA a = true then .mp (a.map keyT) ((List.range a.length).map fun n : Nat => int n) else .sc (.map none)
theorem indexAV_bad {a : List Letter} (h : validA a = false) : indexAV a = .sc (.map none) := by unfold indexAV; rw [h]; rfl
theorem indexAV_good {a : List Letter} {i : Nat} (h1 : 1 ≤ a.length ∧ a.length ≤ 60) (hi : i = a.length) (h : ∀ j, j < i → ok1P a (a.getD j default) ∧ ok2P (a.getD j default) j) (hn : ¬ (ixK a i).length < a.length) : indexAV a = .mp (ixK a i) (ixV a i) := by
  subst hi
  have hl := ixK_len a a.length
  obtain ⟨g1, g2, g3⟩ := ixK_full (Nat.le_refl a.length) (by omega)
  unfold indexAV
  rw [if_pos (validA_good (n := a.length) h1 (Nat.le_refl _) fun j hj => ⟨(h j hj).1, (h j hj).2, g3 j hj⟩), g1, g2, List.take_length]
theorem validA_dup {a : List Letter} {i : Nat} (hi : i = a.length) (h : (ixK a i).length < a.length) : validA a = false := by
  subst hi
  obtain ⟨j, hj, hn⟩ := ixK_not (Nat.le_refl _) h
  unfold validA
  rw [decide_eq_false]
  rintro ⟨_, h2⟩
  exact hn (h2 j hj).2.2
theorem resB_lt {c : UInt8} (h : (c.toNat : Int) < 33) : resB c = true := by
  unfold resB; rw [decide_eq_true (p := c.toNat < 33) (by omega), Bool.or_true]
theorem resB_ib {c : UInt8} (h : ¬ (c.toNat : Int) < 33) : resB c = decide (0 ≤ Lib.indexByte resL c) := by
  unfold resB; rw [decide_eq_false (p := c.toNat < 33) (by omega), Bool.or_false]; exact Lib.contains_iff_indexByte resL c
end Go.Wc

namespace Go.Wb
set_option linter.unusedVariables false
open Go.Am Go.Wc
theorem rising_len : ∀ {l : List Int} {m : Nat}, Srt leI l → (∀ x ∈ l, (m : Int) ≤ x ∧ x < 64) → l.length ≤ 64 - m
  | [], m, _, _ => Nat.zero_le _
  | x :: l, m, hs, h => by
    have h1 := h x List.mem_cons_self
    have h2 := List.pairwise_cons.1 hs
    have h3 := rising_len (l := l) (m := m + 1) h2.2 fun y hy => ⟨by
      have := h2.1 y hy
      have h4 := of_decide_eq_true this.1
      have h5 := this.2
      omega, (h y (List.mem_cons_of_mem _ hy)).2⟩
    rw [List.length_cons]; omega
theorem setOk_len {s : List Int} (h : setOk s = true) : s.length ≤ 64 := by
  have h1 := setOk_iff.1 h
  exact rising_len (m := 0) h1.2.1 fun x hx => h1.2.2 x hx
theorem one_nf {s : List Int} (h : setOk s = true) : Nf (oneR s) ∧ (oneR s).size ≤ 65 := by
  refine ⟨.set h, ?_⟩
  have := setOk_len h
  unfold oneR; rw [size_mk]; simp only [Rx.sizes]; omega
theorem range_ok {n : Nat} (h0 : 0 < n) (h : n ≤ 64) : setOk ((List.range n).map fun (k : Nat) => (k : Int)) = true := by
  refine setOk_iff.2 ⟨by simpa using h0, ?_, fun x hx => ?_⟩
  · refine List.pairwise_map.2 ((List.pairwise_lt_range).imp fun h => ⟨decide_eq_true (by omega), by omega⟩)
  · obtain ⟨k, hk, rfl⟩ := List.mem_map.1 hx
    have := List.mem_range.1 hk; omega
theorem sing_ok {x : Int} (h : 0 ≤ x ∧ x < 64) : setOk [x] = true := setOk_iff.2 ⟨Nat.succ_pos _, List.pairwise_singleton _ _, fun y hy => by rw [List.mem_singleton.1 hy]; exact h⟩
theorem none_nf : Nf noneRx ∧ noneRx.size ≤ 65 := ⟨.none, by decide⟩
theorem tokAt_ok {a : List Letter} {sets : List SetT} {t : List UInt8} (ha : 1 ≤ a.length ∧ a.length ≤ 60) : Nf (tokAt a sets t).2.1 ∧ (tokAt a sets t).2.1.size ≤ 65 := by
  unfold tokAt
  split
  · next h =>
    have := bestN_lt (a := a) (t := t) a.length
    exact one_nf (sing_ok (by omega))
  · split
    · exact one_nf (range_ok (by omega) (by omega))
    · split
      · exact one_nf (sing_ok (by decide))
      · split
        · exact one_nf (sing_ok (by decide))
        · split
          · exact none_nf
          · split
            · exact none_nf
            · split
              · exact none_nf
              · split
                · next h => exact one_nf h.2
                · exact none_nf
theorem endT_cons {t : Tok} {l : List Tok} (h : endT l) : endT (t :: l) := by
  obtain ⟨h0, h1⟩ := h
  refine ⟨by rw [List.length_cons]; omega, ?_⟩
  rw [List.length_cons, show l.length + 1 - 1 = (l.length - 1) + 1 by omega]
  exact h1
theorem tokN_good {a : List Letter} {sets : List SetT} {s : List UInt8} (ha : 1 ≤ a.length ∧ a.length ≤ 60) : ∀ n k, endT (tokN a sets s n k) ∧ TokOk (tokN a sets s n k) ∧ wtT (tokN a sets s n k) ≤ 69 * (n + 1)
  | 0, k => ⟨⟨by show 0 < 1; decide, .inr rfl⟩, ⟨fun t ht => by rw [List.mem_singleton.1 ht]; exact .none, fun t ht => by rw [List.mem_singleton.1 ht]; exact Int.natCast_nonneg k⟩, by show 1 + 0 + Rx.sizes [] + 4 + 0 ≤ _; rw [show Rx.sizes [] = 0 from rfl]; omega⟩
  | n + 1, k => by
    have one : ∀ c : Int, c = 0 ∨ c = 101 → endT [(⟨c, noneRx, k⟩ : Tok)] ∧ TokOk [(⟨c, noneRx, k⟩ : Tok)] ∧ wtT [(⟨c, noneRx, k⟩ : Tok)] ≤ 69 * (n + 1 + 1) := fun c hc =>
      ⟨⟨by show 0 < 1; decide, hc⟩, ⟨fun t ht => by rw [List.mem_singleton.1 ht]; exact .none, fun t ht => by rw [List.mem_singleton.1 ht]; exact Int.natCast_nonneg k⟩, by show 1 + 0 + Rx.sizes [] + 4 + 0 ≤ _; rw [show Rx.sizes [] = 0 from rfl]; omega⟩
    rw [tokN]
    split
    · split
      · exact one 0 (.inl rfl)
      · obtain ⟨h1, h2, h3⟩ := tokN_good (sets := sets) (s := s) ha n (k + (tokAt a sets (s.drop k)).2.2)
        obtain ⟨h4, h5⟩ := tokAt_ok (sets := sets) (t := s.drop k) ha
        refine ⟨endT_cons h1, ⟨fun t ht => ?_, fun t ht => ?_⟩, ?_⟩
        · rcases List.mem_cons.1 ht with rfl | ht
          · exact h4
          · exact h2.nf t ht
        · rcases List.mem_cons.1 ht with rfl | ht
          · exact Int.natCast_nonneg k
          · exact h2.pos t ht
        · rw [wtT]
          show (tokAt a sets (s.drop k)).2.1.size + 4 + _ ≤ _
          omega
    · exact one 101 (.inr rfl)
theorem validA_bd {a : List Letter} (h : validA a = true) : 1 ≤ a.length ∧ a.length ≤ 60 := (of_decide_eq_true (p := validP a) h).1
theorem toksP_ok {a : List Letter} {sets : List SetT} {s : List UInt8} (h : validA a = true) (hs : s.length ≤ 1024) : endT (toksP a sets s) ∧ TokOk (toksP a sets s) ∧ wtT (toksP a sets s) ≤ 274877906944 := by
  obtain ⟨h1, h2, h3⟩ := tokN_good (sets := sets) (s := s) (validA_bd h) s.length 0
  exact ⟨h1, h2, by unfold toksP; omega⟩
def parseP (a : List Letter) (sets : List SetT) (s : List UInt8) : Rx × Int := if validA a = false then (noneRx, 0) else if 1024 < s.length then (noneRx, 1024) else pTop (toksP a sets s)
theorem pTop_bad {l : List Tok} (h : 0 ≤ (finP (pAlt (pSeq (pPost l.length)) ⟨l, -1⟩).2).bad) : pTop l = (noneRx, (finP (pAlt (pSeq (pPost l.length)) ⟨l, -1⟩).2).bad) := if_pos h
theorem pTop_ok {l : List Tok} (h : ¬ 0 ≤ (finP (pAlt (pSeq (pPost l.length)) ⟨l, -1⟩).2).bad) : pTop l = ((pAlt (pSeq (pPost l.length)) ⟨l, -1⟩).1, -1) := if_neg h
end Go.Wb

