/-
  append, literals, make, variables in memory, stores, results that the call then owns.
-/
import Derived.Test.YtjimlkpfmbachaaGreatJ2
import Derived.Maps.AppendAt
import Derived.Great.FillDense
import Derived.Great.BuildSlice
set_option linter.unusedVariables false
set_option linter.unusedSectionVars false
set_option linter.unusedSimpArgs false
namespace Go.Am
open Go.RowKit
set_option linter.unusedVariables false

abbrev int (n : Int) : AV := .sc (.int .i64 n)
abbrev bool (b : Bool) : AV := .sc (.bool b)
abbrev str (s : ByteArray) : AV := .sc (.string s)
abbrev ints (l : List Int) : AV := .sl (l.map int)
abbrev intss (l : List (List Int)) : AV := .sl (l.map ints)

theorem wrap64 {x : Int} (h : -9223372036854775808 ≤ x) (h' : x ≤ 9223372036854775807) : IntKind.i64.wrap x = x := IntWalk.i64_in x ⟨h, h'⟩

section
variable {P : Program} {w0 : Fr} {M0 : Nat → Prop}

def guardB (ops : Array Oper) (ρ : Operand → Option SV) (o : Oper) : Option Bool :=
  match o.guard with
  | none => none
  | some (j, _) => match (ops[j]?).bind (·.dst) with
    | none => none
    | some t => match ρ (.tmp t) with
      | some (.v _ (.sc (.bool b))) => some b
      | _ => none
theorem guardOf_of {ops : Array Oper} {ρ : Operand → Option SV} {o : Oper} {b : Bool} {j : Nat} {want : Bool} (hw : o.guard = some (j, want)) (h : guardB ops ρ o = some b) : guardOf ops ρ o = some (b == want) := by
  unfold guardB at h
  unfold guardOf
  simp only [hw] at h ⊢
  split at h
  · cases h
  · rename_i t ht
    split at h
    · rename_i c b' hb
      simp only [Option.some.injEq] at h
      subst h
      rw [ht]; simp only [hb]
    · cases h

def OpsL (P : Program) (w0 : Fr) (M0 : Nat → Prop) (ops : Array Oper) (Q : St → Prop) : List Oper → St → Prop
  | [], s => ∃ s1, Imp P w0 M0 s s1 ∧ Q s1
  | o :: rest, s => ∃ s1, Imp P w0 M0 s s1 ∧ ∃ s', ((guardOf ops s1.ev o = some true ∧ Step P w0 M0 o s1 s') ∨ (guardOf ops s1.ev o = some false ∧ ∃ t, o.dst = some t ∧ t < s1.n ∧ s' = s1.put t (.v .pl (.tup [])))) ∧ OpsL P w0 M0 ops Q rest s'
variable {ops : Array Oper} {Q : St → Prop} {s s' : St} {o : Oper} {rest : List Oper} {t : Nat} {d : SV}
theorem opsOk_of_opsL : ∀ (l : List Oper) (k : Nat) (s : St), (∀ j, l[j]? = ops[k + j]?) → OpsL P w0 M0 ops Q l s → OpsOk P w0 M0 ops (List.range' k l.length) s Q
  | [], k, s, _, h => by
    obtain ⟨s1, hi, hq⟩ := h
    exact fun a w hs => ops_nil hq a w (hi a w hs)
  | o :: rest, k, s, hl, h => by
    obtain ⟨s1, hi, s', h1, h2⟩ := h
    have ho : ops[k]? = some o := by have := hl 0; simpa using this.symm
    have ih := opsOk_of_opsL rest (k + 1) s' (fun j => by have := hl (j + 1); rw [List.getElem?_cons_succ] at this; rw [this]; congr 1; omega) h2
    rw [List.length_cons, List.range'_succ]
    rcases h1 with ⟨hg, hs⟩ | ⟨hg, t, ht, hn, rfl⟩
    · exact fun a w hsim => ops_step ho hg hs ih a w (hi a w hsim)
    · exact fun a w hsim => ops_skip ho hg ht hn ih a w (hi a w hsim)
theorem OpsL.imp {l : List Oper} (hi : Imp P w0 M0 s s') (h : OpsL P w0 M0 ops Q l s') : OpsL P w0 M0 ops Q l s := by
  cases l with
  | nil => obtain ⟨s1, h1, h2⟩ := h; exact ⟨s1, hi.trans h1, h2⟩
  | cons o r => obtain ⟨s1, h1, h2⟩ := h; exact ⟨s1, hi.trans h1, h2⟩
def Sub (s1 s : St) : Prop := s1.n = s.n ∧ s1.o = s.o ∧ ∀ t d, s1.s.lookup t = some d → s.s.lookup t = some d
theorem Sub.refl (s : St) : Sub s s := ⟨rfl, rfl, fun _ _ h => h⟩
theorem Sub.trans {a b c : St} (h : Sub a b) (h' : Sub b c) : Sub a c := ⟨h.1.trans h'.1, h.2.1.trans h'.2.1, fun t d hd => h'.2.2 t d (h.2.2 t d hd)⟩
theorem Sub.put {a b : St} (h : Sub a b) (t : Nat) (d : SV) : Sub (a.put t d) (b.put t d) := ⟨h.1, h.2.1, fun u e he => by
  simp only [St.put] at he ⊢
  rw [lookup_ins] at he ⊢
  by_cases hu : u = t
  · rw [if_pos hu] at he ⊢; exact he
  · rw [if_neg hu] at he ⊢; exact h.2.2 u e he⟩
theorem Sub.imp {a b : St} (h : Sub a b) : Imp P w0 M0 b a := imp_slots h.1 h.2.1 h.2.2
theorem Sub.ev {a b : St} (h : Sub a b) {x : Operand} {d : SV} (hx : a.ev x = some d) : b.ev x = some d := by
  cases x with
  | tmp t => exact h.2.2 t d hx
  | const v => exact hx
  | func f => exact hx
  | global g => exact hx
theorem Sub.guard {a b : St} (h : Sub a b) {o : Oper} {g : Bool} (hg : guardOf ops a.ev o = some g) : guardOf ops b.ev o = some g := by
  unfold guardOf at hg ⊢
  cases h0 : o.guard with
  | none => simp only [h0] at hg ⊢; exact hg
  | some jw =>
    obtain ⟨j, want⟩ := jw
    simp only [h0] at hg ⊢
    cases ht : (ops[j]?).bind (·.dst) with
    | none => simp only [ht] at hg; cases hg
    | some t =>
      simp only [ht] at hg ⊢
      split at hg
      · rename_i c q hq; simp only [h.ev hq]; exact hg
      · rename_i c hq; simp only [h.ev hq]; exact hg
      · cases hg
theorem Sub.pure {a b : St} (h : Sub a b) {o : Oper} {d : SV} (hp : Pure P w0 M0 o (restr ops o a.ev) a.o d) : Pure P w0 M0 o (restr ops o b.ev) b.o d := by
  intro E w ev hw hx
  rw [← h.2.1] at hw
  have := hp E w ev hw (fun x e he => by
    rw [h.2.1]
    refine hx x e ?_
    cases x with
    | tmp t =>
      by_cases hc : (looks ops o).contains t = true
      · simp only [restr, hc, if_true] at he ⊢; exact h.ev he
      · simp only [restr, hc] at he; cases he
    | const v => exact he
    | func f => exact he
    | global g => exact he)
  rwa [h.2.1] at this
theorem EndL.imp {Q : St → Prop} {m : Nat} {s s' : St} (hi : Imp P w0 M0 s' s) (he : EndL P w0 M0 ops Q m s) : EndL P w0 M0 ops Q m s' :=
  fun f L a w hL hiff hs hf => he f L a w hL hiff (hi a w hs) hf
def DrawS (P : Program) (w0 : Fr) (M0 : Nat → Prop) (ops : Array Oper) (Q : St → Prop) : List Oper → Nat → St → Prop
  | [], _, s => ∃ s1, Sub s1 s ∧ Q s1
  | o :: rest, i, s => ∃ s1, Sub s1 s ∧
    ((∃ t, o.dst = some t ∧ t < s1.n ∧ ∃ g, guardOf ops s1.ev o = some g ∧ ∃ d, (g = true → Pure P w0 M0 o (restr ops o s1.ev) s1.o d) ∧ (g = false → d = .v .pl (.tup [])) ∧ DrawS P w0 M0 ops Q rest (i + 1) (s1.put t d)) ∨
    (tailOk ops i = true ∧ TailL P w0 M0 Q (o :: rest) s1) ∨ (phaseOk ops i = true ∧ EndL P w0 M0 ops (fun s => ∃ s', Imp P w0 M0 s s' ∧ Q s') i s1))
theorem drawL_of_drawS : ∀ (l : List Oper) (i : Nat) (s1 s : St), Sub s1 s → DrawS P w0 M0 ops Q l i s1 → DrawL P w0 M0 ops (fun s => ∃ s', Imp P w0 M0 s s' ∧ Q s') l i s
  | [], i, s1, s, hs, ⟨s2, h2, hq⟩ => ⟨s2, (h2.trans hs).imp, hq⟩
  | o :: rest, i, s1, s, hs, ⟨s2, h2, h⟩ => by
    have hs2 := h2.trans hs
    rcases h with ⟨t, ht, hn, g, hg, d, h1, h0, hr⟩ | ⟨htl, hg, s', hst, hq⟩ | ⟨htl, hq⟩
    · exact .inl ⟨t, ht, by rw [← hs2.1]; exact hn, g, hs2.guard hg, d, fun h => hs2.pure (h1 h), h0, drawL_of_drawS rest (i + 1) _ _ (hs2.put t d) hr⟩
    · exact .inr (.inl ⟨htl, hg, s', fun a w Q hsim => hst a w Q (hs2.imp a w hsim), hq.mono fun s'' h => ⟨s'', Imp.refl _, h⟩⟩)
    · exact .inr (.inr ⟨htl, hq.imp hs2.imp⟩)
theorem code_ops {id : Nat} {Q' : Exit → St → Prop} (l : List Oper) (hl : ops.toList = l) (h : OpsL P w0 M0 ops (Q' .normal) l s) : CodeOk P w0 M0 (.region id ops false) s Q' := by
  subst hl
  refine code_region _ rfl ?_
  have := opsOk_of_opsL ops.toList 0 s (fun j => by simp) h
  rwa [Array.length_toList, ← List.range_eq_range'] at this
theorem code_draw {id : Nat} {Q' : Exit → St → Prop} (hm : P.follows .mixedOrders = true) (hok : drawOk ops = true) (l : List Oper) (hl : ops.toList = l) (h : DrawS P w0 M0 ops (Q' .normal) l 0 s) : CodeOk P w0 M0 (.region id ops true) s Q' := by
  subst hl
  have := wp_region_drawL (id := id) hm hok (drawL_of_drawS _ _ _ _ (Sub.refl s) h) (Q' := fun e s => match e with | .normal => ∃ s', Imp P w0 M0 s s' ∧ Q' .normal s' | _ => False) (fun s h => h)
  intro a w hsim
  refine wp_mono (this a w hsim) fun e a' w' ⟨s', h1, h2⟩ => ?_
  cases e with
  | normal => obtain ⟨s2, hi, hq⟩ := h1; exact ⟨s2, hq, hi a' w' h2⟩
  | _ => exact h1.elim

theorem ol_nil (h : Q s) : OpsL P w0 M0 ops Q [] s := ⟨s, Imp.refl _, h⟩
theorem ol_skip_u (hg : guardOf ops s.ev o = some false) (ht : o.dst = some t) (hn : Nat.blt t s.n = true) (hr : OpsL P w0 M0 ops Q rest (s.put t (.v .pl (.tup [])))) : OpsL P w0 M0 ops Q (o :: rest) s :=
  ⟨s, Imp.refl _, _, .inr ⟨hg, t, ht, by simpa using hn, rfl⟩, hr⟩
variable {i : Nat}
theorem dl_nil (h : Q s) : DrawS P w0 M0 ops Q [] i s := ⟨s, Sub.refl _, h⟩
theorem dl_pure (hg : o.guard = none) (ht : o.dst = some t) (hn : Nat.blt t s.n = true) (h : Pure P w0 M0 o (restr ops o s.ev) s.o d) (hr : DrawS P w0 M0 ops Q rest (i + 1) (s.put t d)) : DrawS P w0 M0 ops Q (o :: rest) i s :=
  ⟨s, Sub.refl _, .inl ⟨t, ht, by simpa using hn, true, by unfold guardOf; rw [hg], d, fun _ => h, fun h => (by cases h), hr⟩⟩
theorem dl_tails (ht : tailOk ops i = true) (h : TailL P w0 M0 Q (o :: rest) s) : DrawS P w0 M0 ops Q (o :: rest) i s := ⟨s, Sub.refl _, .inr (.inl ⟨ht, h⟩)⟩
theorem dl_ends (ht : phaseOk ops i = true) (h : EndL P w0 M0 ops (fun s => ∃ s', Imp P w0 M0 s s' ∧ Q s') i s) : DrawS P w0 M0 ops Q (o :: rest) i s := ⟨s, Sub.refl _, .inr (.inr ⟨ht, h⟩)⟩
theorem tl_step {s' : St} (hg : o.guard = none) (h : Step P w0 M0 o s s') (hr : TailL P w0 M0 Q rest s') : TailL P w0 M0 Q (o :: rest) s := ⟨hg, s', h, hr⟩
theorem tl_pure (hg : o.guard = none) (ht : o.dst = some t) (hn : Nat.blt t s.n = true) (h : Pure P w0 M0 o s.ev s.o d) (hr : TailL P w0 M0 Q rest (s.put t d)) : TailL P w0 M0 Q (o :: rest) s :=
  ⟨hg, _, step_pure ht (by simpa using hn) h, hr⟩
theorem tl_nil (h : Q s) : TailL P w0 M0 Q [] s := h
theorem dl_pure_g {j : Nat} {want b : Bool} (hw : o.guard = some (j, want)) (hg : guardB ops s.ev o = some b) (hb : b = want) (ht : o.dst = some t) (hn : Nat.blt t s.n = true) (h : Pure P w0 M0 o (restr ops o s.ev) s.o d)
    (hr : DrawS P w0 M0 ops Q rest (i + 1) (s.put t d)) : DrawS P w0 M0 ops Q (o :: rest) i s :=
  ⟨s, Sub.refl _, .inl ⟨t, ht, by simpa using hn, true, by rw [guardOf_of hw hg, hb]; cases want <;> rfl, d, fun _ => h, fun h => (by cases h), hr⟩⟩
theorem dl_skip_g {j : Nat} {want b : Bool} (hw : o.guard = some (j, want)) (hg : guardB ops s.ev o = some b) (hb : b = !want) (ht : o.dst = some t) (hn : Nat.blt t s.n = true)
    (hr : DrawS P w0 M0 ops Q rest (i + 1) (s.put t (.v .pl (.tup [])))) : DrawS P w0 M0 ops Q (o :: rest) i s :=
  ⟨s, Sub.refl _, .inl ⟨t, ht, by simpa using hn, false, by rw [guardOf_of hw hg, hb]; cases want <;> rfl, _, fun h => (by cases h), fun _ => rfl, hr⟩⟩
theorem dl_skip_u (hg : guardOf ops s.ev o = some false) (ht : o.dst = some t) (hn : Nat.blt t s.n = true) (hr : DrawS P w0 M0 ops Q rest (i + 1) (s.put t (.v .pl (.tup [])))) : DrawS P w0 M0 ops Q (o :: rest) i s :=
  ⟨s, Sub.refl _, .inl ⟨t, ht, by simpa using hn, false, hg, _, fun h => (by cases h), fun _ => rfl, hr⟩⟩
theorem dl_guard {b : Bool} {l : List Oper} (hg : guardB ops s.ev o = some b) (h1 : b = true → DrawS P w0 M0 ops Q (o :: l) i s) (h0 : b = false → DrawS P w0 M0 ops Q (o :: l) i s) : DrawS P w0 M0 ops Q (o :: l) i s := by
  cases b
  · exact h0 rfl
  · exact h1 rfl

def Has (s : St) : List (Nat × SV) → Prop
  | [] => True
  | (t, d) :: r => s.s.lookup t = some d ∧ Has s r
def HasO (s : St) : List (Nat × Ob) → Prop
  | [] => True
  | (t, d) :: r => s.o.lookup t = some d ∧ HasO s r
theorem Has.out {s : St} : ∀ {l : List (Nat × SV)}, Has s l → ∀ t d, l.lookup t = some d → s.s.lookup t = some d
  | [], _, t, d, h => by simp at h
  | (u, e) :: r, h, t, d, hl => by
    rw [lookup_cons'] at hl
    split at hl
    · rename_i he
      subst he
      simp only [Option.some.injEq] at hl
      subst hl
      exact h.1
    · exact Has.out h.2 t d hl
theorem HasO.out {s : St} : ∀ {l : List (Nat × Ob)}, HasO s l → ∀ t d, l.lookup t = some d → s.o.lookup t = some d
  | [], _, t, d, h => by simp at h
  | (u, e) :: r, h, t, d, hl => by
    rw [lookup_cons'] at hl
    split at hl
    · rename_i he
      subst he
      simp only [Option.some.injEq] at hl
      subst hl
      exact h.1
    · exact HasO.out h.2 t d hl
theorem clsM_mono {own own' : Nat → Prop} (h : ∀ b, own' b → own b) (c : Cls) : ∀ b, clsM M0 own' c b → clsM M0 own c b := by
  intro b hb
  cases c with
  | pl => exact hb.imp id (h b)
  | mx => exact h b hb
  | vw => exact hb
theorem SVok.fewer {w : World} {E : Env} {o o' : List (Nat × Ob)} (h : ∀ id ob, o'.lookup id = some ob → o.lookup id = some ob) {v : Value} {d : SV} (hv : SVok P M0 w E o v d) : SVok P M0 w E o' v d := by
  have hown : ∀ b, owned E o' b → owned E o b := fun b ⟨id, ob, h1, h2⟩ => ⟨id, ob, h id ob h1, h2⟩
  cases d with
  | v c d => exact Rep.weak hv (clsM_mono hown c)
  | own id => exact fun e xs hl => hv e xs (h _ _ hl)
  | pel id i off => exact fun e xs hl => hv e xs (h _ _ hl)
  | pbox id off => exact fun e xs hl => hv e xs (h _ _ hl)
  | omap id => exact fun e xs hl => hv e xs (h _ _ hl)
  | vsl id i n => exact fun e xs hl => hv e xs (h _ _ hl)
  | fn f caps =>
    obtain ⟨vs, h1, h2, h3⟩ := hv
    refine ⟨vs, h1, h2, fun j c hc => ?_⟩
    have := h3 j c hc
    cases c with
    | bx id => exact fun e cs hl => this e cs (h _ _ hl)
    | pl d => exact Rep.weak this (clsM_mono hown .pl)
  | dead => trivial
theorem imp_has {s : St} {l : List (Nat × SV)} {o' : List (Nat × Ob)} (hl : Has s l) (ho : HasO s o') : Imp P w0 M0 s ⟨s.n, l, o'⟩ := by
  rintro a w ⟨E, hs⟩
  have ho' := ho.out
  have hown : ∀ b, owned E o' b → owned E s.o b := fun b ⟨id, ob, h1, h2⟩ => ⟨id, ob, ho' id ob h1, h2⟩
  refine ⟨E, hs.size, hs.defers, fun t d ht => ?_, fun id ob hid => ?_, fun id ob id' ob' b h1 h2 => hs.wok.disj id ob id' ob' b (ho' _ _ h1) (ho' _ _ h2), hs.wok.below, hs.wok.pins⟩
  · have := hs.slots t d (hl.out t d ht)
    exact ⟨this.1, this.2.fewer ho'⟩
  · have := hs.wok.objs id ob (ho' id ob hid)
    cases ob with
    | arr e xs =>
      obtain ⟨vals, h1, h2, h3⟩ := this
      exact ⟨vals, h1, h2, fun j d hd => ⟨(h3 j d hd).1, (h3 j d hd).2.weak (clsM_mono hown .pl)⟩⟩
    | box e cs =>
      obtain ⟨vals, h1, h2, h3, h4⟩ := this
      exact ⟨vals, h1, h2, h3, fun j sv hj => ⟨(h4 j sv hj).1, (h4 j sv hj).2.1, (h4 j sv hj).2.2.fewer ho'⟩⟩
    | mp ks vs =>
      obtain ⟨es, clock, h1, h2, h3, h4, h5⟩ := this
      exact ⟨es, clock, h1, h2, h3, h4, fun j d hd => (h5 j d hd).weak (clsM_mono hown .pl)⟩
theorem dl_pick {l' : List Oper} {i : Nat} (n : Nat) (l : List (Nat × SV)) (o' : List (Nat × Ob)) (hn : s.n = n) (ho : s.o = o') (hl : Has s l) (h : DrawS P w0 M0 ops Q l' i ⟨n, l, o'⟩) : DrawS P w0 M0 ops Q l' i s := by
  subst hn; subst ho
  have hsub : Sub ⟨s.n, l, s.o⟩ s := ⟨rfl, rfl, hl.out⟩
  cases l' with
  | nil => obtain ⟨s1, h1, h2⟩ := h; exact ⟨s1, h1.trans hsub, h2⟩
  | cons o r => obtain ⟨s1, h1, h2⟩ := h; exact ⟨s1, h1.trans hsub, h2⟩
def loopM (P : Program) (w0 : Fr) (M0 : Nat → Prop) (I : Nat → St → Prop) (m : Nat) (Q : Exit → St → Prop) : Exit → St → Prop
  | .normal, s => ∃ m' s', Imp P w0 M0 s s' ∧ I m' s' ∧ m' < m
  | e, s => Q e s
theorem code_loopM {c : Code} {Q : Exit → St → Prop} (I : Nat → St → Prop) (h0 : ∃ m s', Imp P w0 M0 s s' ∧ I m s') (hr : ∀ m s, I m s → CodeOk P w0 M0 c s (loopM P w0 M0 I m Q)) : CodeOk P w0 M0 (.loop c) s Q := by
  intro a w hs
  obtain ⟨m1, s1, hi, hI⟩ := h0
  have key : ∀ n m s a w, I m s → m < n → Sim P w0 M0 s a w → Code.rounds P c (fun e a' w' => ∃ s', Q e s' ∧ Sim P w0 M0 s' a' w') n a w := by
    intro n
    induction n with
    | zero => intro m s a w _ h; omega
    | succ n ih =>
      intro m s a w hI hlt hs
      rw [rounds_succ]
      refine wp_mono (hr m s hI a w hs) fun e a' w' ⟨s', h1, h2⟩ => ?_
      cases e <;> simp only [Exit.then, loopM] at h1 ⊢ <;>
        first
        | exact ⟨s', h1, h2⟩
        | (obtain ⟨m2, s2, hi2, hI2, hlt2⟩ := h1
           exact ih m2 s2 a' w' hI2 (by omega) (hi2 a' w' h2))
  exact wp_loop_rounds (m1 + 1) (key _ m1 s1 a w hI (by omega) (hi a w hs))
section ops2
variable {ρ : Operand → Option SV} {ob : List (Nat × Ob)} {x y : Operand} {T T' : TypeId} {a b : Int} {c : Cls}
theorem pure_addi (ho : o.op = .binOp .add T x y T') (hx : scal ρ x = some (.int .i64 a)) (hy : scal ρ y = some (.int .i64 b)) (h : -9223372036854775808 ≤ a + b ∧ a + b ≤ 9223372036854775807) : Pure P w0 M0 o ρ ob (.v .pl (int (a + b))) := by
  have := pure_add (P := P) (w0 := w0) (M0 := M0) (ob := ob) ho hx hy
  rwa [wrap64 h.1 h.2] at this
theorem pure_subi (ho : o.op = .binOp .sub T x y T') (hx : scal ρ x = some (.int .i64 a)) (hy : scal ρ y = some (.int .i64 b)) (h : -9223372036854775808 ≤ a - b ∧ a - b ≤ 9223372036854775807) : Pure P w0 M0 o ρ ob (.v .pl (int (a - b))) := by
  have := pure_sub (P := P) (w0 := w0) (M0 := M0) (ob := ob) ho hx hy
  rwa [wrap64 h.1 h.2] at this
theorem pure_muli (ho : o.op = .binOp .mul T x y T') (hx : scal ρ x = some (.int .i64 a)) (hy : scal ρ y = some (.int .i64 b)) (h : -9223372036854775808 ≤ a * b ∧ a * b ≤ 9223372036854775807) : Pure P w0 M0 o ρ ob (.v .pl (int (a * b))) := by
  have := pure_mul (P := P) (w0 := w0) (M0 := M0) (ob := ob) ho hx hy
  rwa [wrap64 h.1 h.2] at this
theorem pure_pick_t {z : Bool} {cx : Operand} (ho : o.op = .pick cx x y) (hc : scal ρ cx = some (.bool z)) (hz : z = true) (hx : ρ x = some d) : Pure P w0 M0 o ρ ob d := by
  subst hz
  exact pure_pick ho hc hx
theorem pure_pick_f {z : Bool} {cx : Operand} (ho : o.op = .pick cx x y) (hc : scal ρ cx = some (.bool z)) (hz : z = false) (hx : ρ y = some d) : Pure P w0 M0 o ρ ob d := by
  subst hz
  exact pure_pick ho hc hx
theorem pure_indexm {α : Type} [Inhabited α] {f : α → AV} {l : List α} {e : TypeId} {k : Nat} {q : IntKind} {i : Int} (ho : o.op = .indexAddr T x y) (hT : P.underlying T = some (.slice e)) (hk : szOf P e = some k)
    (hx : viewAt ρ ob x = some (c, .sl (l.map f))) (hy : scal ρ y = some (.int q i)) (h : 0 ≤ i ∧ i < l.length) (hc : ∀ z, (AV.cells (f z)).length = k) :
    Pure P w0 M0 o ρ ob (.v c (.pc (AV.cells (f (l.getD i.toNat default))) 0)) :=
  pure_index ho hT hk hx hy h.1 (by rw [List.getElem?_map, List.getD_eq_getElem?_getD, List.getElem?_eq_getElem (by omega)]; rfl) (hc _)
end ops2
end
end Go.Am
namespace Go.Am
section
variable {P : Program} {w0 : Fr} {M0 : Nat → Prop} {s : St} {Q : Exit → St → Prop} {y : Code} {id i : Nat} {I : Nat → St → Prop} {m : Nat}
theorem blockQ_same (h : Q .normal s) : blockQ id Q (.exit id) s := by simp only [blockQ, if_true]; exact h
theorem blockQ_other (h : Q (.exit i) s) (hne : Nat.beq i id = false) : blockQ id Q (.exit i) s := by
  have : i ≠ id := by rintro rfl; simp at hne
  simp only [blockQ, this, if_false]; exact h
theorem code_cond_t {x y : Code} {t : Nat} {Q : Exit → St → Prop} (hb : scal s.ev (.tmp t) = some (.bool true)) (h : CodeOk P w0 M0 x s Q) : CodeOk P w0 M0 (.cond (.tmp t) x y) s Q := code_cond hb (fun _ => h) (fun h => by cases h)
theorem code_cond_f {x y : Code} {t : Nat} {Q : Exit → St → Prop} (hb : scal s.ev (.tmp t) = some (.bool false)) (h : CodeOk P w0 M0 y s Q) : CodeOk P w0 M0 (.cond (.tmp t) x y) s Q := code_cond hb (fun h => by cases h) (fun _ => h)
theorem end_ret {t : Nat} {r r' : RV} (h : (s.s.lookup t).bind (retOf s.o) = some r') (hr : r' = r) : endQ t r .ret s := by subst hr; exact h
end
end Go.Am

namespace Go.Am
open Go.RowKit
set_option linter.unusedVariables false

def SV.refs (id : Nat) : SV → Bool
  | .own i => Nat.beq i id
  | .pel i _ _ => Nat.beq i id
  | .pbox i _ => Nat.beq i id
  | .omap i => Nat.beq i id
  | .vsl i _ _ => Nat.beq i id
  | .fn _ caps => caps.any fun c => match c with
    | .bx i => Nat.beq i id
    | _ => false
  | _ => false
def SV.stays (kill : Bool) (id : Nat) : SV → Bool
  | .v .vw _ => false
  | d => !(kill && d.refs id)
def killO (kill : Bool) (id : Nat) (o : List (Nat × Ob)) : List (Nat × Ob) := o.map fun p => (p.1, match p.2 with
  | .box e cs => .box e (cs.map fun d => if d.stays kill id then d else .dead)
  | ob => ob)
def St.upd (s : St) (kill : Bool) (id : Nat) (ob : Ob) : St := { n := s.n, s := s.s.filter (fun p => p.2.stays kill id), o := ins id ob (killO kill id s.o) }

def killOb (kill : Bool) (id : Nat) : Ob → Ob
  | .box e cs => .box e (cs.map fun d => if d.stays kill id then d else .dead)
  | ob => ob
theorem lookup_killO (kill : Bool) (id i : Nat) (o : List (Nat × Ob)) : (killO kill id o).lookup i = (o.lookup i).map (killOb kill id) := by
  induction o with
  | nil => rfl
  | cons p r ih =>
    obtain ⟨t, d⟩ := p
    simp only [killO, List.map_cons] at ih ⊢
    rw [lookup_cons', lookup_cons', ih]
    split
    · cases d <;> rfl
    · rfl
theorem lookup_stays (kill : Bool) (id : Nat) (l : List (Nat × SV)) (t : Nat) (d : SV) (h : (l.filter (fun p => p.2.stays kill id)).lookup t = some d) : (∃ e, l.lookup t = some e) ∧ d.stays kill id = true ∧ ((t, d) ∈ l) := by
  have hm := mem_of_lookup _ h
  obtain ⟨h1, h2⟩ := List.mem_filter.1 hm
  refine ⟨?_, h2, h1⟩
  clear h h2
  induction l with
  | nil => cases h1
  | cons p r ih =>
    obtain ⟨u, e⟩ := p
    rw [lookup_cons']
    split
    · exact ⟨e, rfl⟩
    · rename_i hne
      rcases List.mem_cons.1 h1 with h | h
      · simp only [Prod.mk.injEq] at h; exact absurd h.1 hne
      · exact ih (List.mem_filter.2 ⟨h, (List.mem_filter.1 hm).2⟩) h
def Nodup (l : List (Nat × SV)) : Bool := match l with
  | [] => true
  | (t, _) :: r => !(r.any fun p => Nat.beq p.1 t) && Nodup r
theorem lookup_of_nodup : ∀ (l : List (Nat × SV)) (t : Nat) (d : SV), Nodup l = true → (t, d) ∈ l → l.lookup t = some d
  | [], t, d, _, h => by cases h
  | (u, e) :: r, t, d, hn, h => by
    simp only [Nodup, Bool.and_eq_true, Bool.not_eq_true'] at hn
    rw [lookup_cons']
    rcases List.mem_cons.1 h with h | h
    · simp only [Prod.mk.injEq] at h
      rw [if_pos h.1, h.2]
    · rw [if_neg, lookup_of_nodup r t d hn.2 h]
      intro he
      have h1 := hn.1
      rw [List.any_eq_false] at h1
      exact h1 (t, d) h (by simpa using he)

section
variable {P : Program} {w0 : Fr} {M0 : Nat → Prop}

theorem pin_ne {t : Nat} (h : t < 1000000) : ∀ x ∈ w0.pin, x.1 ≠ t := fun x hx he => by have := w0.hpin x hx; omega
theorem SimE.upd {E E' : Env} {s : St} {a : Act} {w w' : World} {id : Nat} {ob' : Ob} (kill : Bool) (hkill : kill = false → E' = E ∧ ((∃ e xs xs', s.o.lookup id = some (.arr e xs) ∧ ob' = .arr e xs' ∧ xs'.length = xs.length) ∨ (∃ e cs cs', s.o.lookup id = some (.box e cs) ∧ ob' = .box e cs') ∨ (∃ ks vs ks' vs', s.o.lookup id = some (.mp ks vs) ∧ ob' = .mp ks' vs'))) (h : SimE P w0 M0 E s a w) (hnd : Nodup s.s = true) (hM0 : ∀ b, M0 b → b < w0.w.heap.size)
    (hE : ∀ i, i ≠ id → E'.cur i = E.cur i ∧ E'.blk i = E.blk i) (hpn : (∀ x ∈ w0.pin, x.1 ≠ id) ∨ E'.blk id = E.blk id) (row : Option Nat) (hg : w.grownBy w' row) (hdr : w0.dr → w.drawn ≤ w'.drawn)
    (hrow : ∀ g, row = some g → ∃ ob, s.o.lookup id = some ob ∧ ownB E id g ob)
    (hnew : ∀ b, ownB E' id b ob' → (∃ ob, s.o.lookup id = some ob ∧ ownB E id b ob) ∨ w.heap.size ≤ b)
    (hob : (∀ M v d, Rep w (clsM M0 (owned E s.o) M) v d → M ≠ .vw → Rep w' (clsM M0 (owned E' (ins id ob' (killO kill id s.o))) M) v d) → (∀ v d, SVok P M0 w E s.o v d → d.stays kill id = true → SVok P M0 w' E' (ins id ob' (killO kill id s.o)) v d) → ObOk P w0 M0 w' E' (ins id ob' (killO kill id s.o)) id ob') :
    SimE P w0 M0 E' (s.upd kill id ob') a w' := by
  have hlook : ∀ i, i ≠ id → (ins id ob' (killO kill id s.o)).lookup i = (s.o.lookup i).map (killOb kill id) := fun i hi => by rw [lookup_ins, if_neg hi, lookup_killO]
  have hown : ∀ b, owned E' (ins id ob' (killO kill id s.o)) b → owned E s.o b ∨ w.heap.size ≤ b := by
    rintro b ⟨i, ob, h1, h2⟩
    by_cases hi : i = id
    · subst hi
      rw [lookup_ins, if_pos rfl] at h1
      simp only [Option.some.injEq] at h1
      subst h1
      rcases hnew b h2 with ⟨ob, h3, h4⟩ | h3
      · exact .inl ⟨i, ob, h3, h4⟩
      · exact .inr h3
    · rw [hlook i hi, Option.map_eq_some_iff] at h1
      obtain ⟨ob0, h3, rfl⟩ := h1
      refine .inl ⟨i, ob0, h3, ?_⟩
      cases ob0 <;> simp only [killOb, ownB, (hE i hi).1, (hE i hi).2] at h2 ⊢ <;> exact h2
  have rep : ∀ (M : Cls) v d, Rep w (clsM M0 (owned E s.o) M) v d → M ≠ .vw → Rep w' (clsM M0 (owned E' (ins id ob' (killO kill id s.o))) M) v d := by
    intro M v d hr hM
    refine hr.mono hg.size (fun b hb hnM => hg.block b hb (fun he => ?_)) (fun b hb hnM hM' => ?_)
    · obtain ⟨ob, h1, h2⟩ := hrow b he.symm
      have : owned E s.o b := ⟨id, ob, h1, h2⟩
      cases M with
      | pl => exact hnM (.inr this)
      | mx => exact hnM this
      | vw => exact hM rfl
    · cases M with
      | pl =>
        rcases hM' with hM' | hM'
        · exact hnM (.inl hM')
        · rcases hown b hM' with h1 | h1
          · exact hnM (.inr h1)
          · omega
      | mx =>
        rcases hown b hM' with h1 | h1
        · exact hnM h1
        · omega
      | vw => exact hM rfl
  have sv : ∀ v d, SVok P M0 w E s.o v d → d.stays kill id = true → SVok P M0 w' E' (ins id ob' (killO kill id s.o)) v d := by
    intro v d hv hst
    cases d with
    | v c d =>
      refine rep c v d hv ?_
      rintro rfl
      cases hst
    | own i =>
      intro e xs hl
      by_cases hi : i = id
      · subst hi
        have hk : kill = false := by cases kill <;> simp_all [SV.stays, SV.refs]
        obtain ⟨rfl, hh⟩ := hkill hk
        rw [lookup_ins, if_pos rfl] at hl
        simp only [Option.some.injEq] at hl
        subst hl
        rcases hh with ⟨e1, xs1, xs2, h1, h2, h3⟩ | ⟨e1, cs1, cs2, h1, h2⟩ | ⟨k1, v1, k2, v2, h1, h2⟩
        · exact hv _ _ h1
        · cases h2
        · cases h2
      · rw [hlook i hi, Option.map_eq_some_iff] at hl
        obtain ⟨ob0, h3, h4⟩ := hl
        cases ob0 with
        | arr e0 xs0 => rw [(hE i hi).1]; exact hv e0 xs0 h3
        | box e0 cs0 => simp [killOb] at h4
        | mp k0 v0 => simp [killOb] at h4
    | pel i j off =>
      intro e xs hl
      by_cases hi : i = id
      · subst hi
        have hk : kill = false := by cases kill <;> simp_all [SV.stays, SV.refs]
        obtain ⟨rfl, hh⟩ := hkill hk
        rw [lookup_ins, if_pos rfl] at hl
        simp only [Option.some.injEq] at hl
        subst hl
        rcases hh with ⟨e1, xs1, xs2, h1, h2, h3⟩ | ⟨e1, cs1, cs2, h1, h2⟩ | ⟨k1, v1, k2, v2, h1, h2⟩
        · simp only [Ob.arr.injEq] at h2
          obtain ⟨rfl, rfl⟩ := h2
          rw [h3]
          exact hv _ _ h1
        · cases h2
        · cases h2
      · rw [hlook i hi, Option.map_eq_some_iff] at hl
        obtain ⟨ob0, h3, h4⟩ := hl
        cases ob0 with
        | arr e0 xs0 =>
          simp only [killOb, Ob.arr.injEq] at h4
          obtain ⟨rfl, rfl⟩ := h4
          rw [(hE i hi).1]; exact hv e0 xs0 h3
        | box e0 cs0 => simp [killOb] at h4
        | mp k0 v0 => simp [killOb] at h4
    | pbox i off =>
      intro e xs hl
      by_cases hi : i = id
      · subst hi
        have hk : kill = false := by cases kill <;> simp_all [SV.stays, SV.refs]
        obtain ⟨rfl, hh⟩ := hkill hk
        rw [lookup_ins, if_pos rfl] at hl
        simp only [Option.some.injEq] at hl
        subst hl
        rcases hh with ⟨e1, xs1, xs2, h1, h2, h3⟩ | ⟨e1, cs1, cs2, h1, h2⟩ | ⟨k1, v1, k2, v2, h1, h2⟩
        · cases h2
        · exact hv _ _ h1
        · cases h2
      · rw [hlook i hi, Option.map_eq_some_iff] at hl
        obtain ⟨ob0, h3, h4⟩ := hl
        cases ob0 with
        | arr e0 xs0 => simp [killOb] at h4
        | box e0 cs0 =>
          rw [(hE i hi).2]; exact hv e0 cs0 h3
        | mp k0 v0 => simp [killOb] at h4
    | vsl i j off =>
      intro e xs hl
      by_cases hi : i = id
      · subst hi
        have hk : kill = false := by cases kill <;> simp_all [SV.stays, SV.refs]
        obtain ⟨rfl, hh⟩ := hkill hk
        rw [lookup_ins, if_pos rfl] at hl
        simp only [Option.some.injEq] at hl
        subst hl
        rcases hh with ⟨e1, xs1, xs2, h1, h2, h3⟩ | ⟨e1, cs1, cs2, h1, h2⟩ | ⟨k1, v1, k2, v2, h1, h2⟩
        · simp only [Ob.arr.injEq] at h2
          obtain ⟨rfl, rfl⟩ := h2
          rw [h3]
          exact hv _ _ h1
        · cases h2
        · cases h2
      · rw [hlook i hi, Option.map_eq_some_iff] at hl
        obtain ⟨ob0, h3, h4⟩ := hl
        cases ob0 with
        | arr e0 xs0 =>
          simp only [killOb, Ob.arr.injEq] at h4
          obtain ⟨rfl, rfl⟩ := h4
          rw [(hE i hi).1]; exact hv e0 xs0 h3
        | box e0 cs0 => simp [killOb] at h4
        | mp k0 v0 => simp [killOb] at h4
    | fn f caps =>
      obtain ⟨vs, g1, g2, g3⟩ := hv
      refine ⟨vs, g1, g2, fun j c hc => ?_⟩
      have g4 := g3 j c hc
      cases c with
      | pl d => exact rep .pl _ _ g4 (by simp)
      | bx i =>
        intro e cs hl
        by_cases hi : i = id
        · subst hi
          have hk : kill = false := by
            cases kill with
            | false => rfl
            | true =>
              exfalso
              have : (caps.any fun c => match c with | .bx j => Nat.beq j i | _ => false) = true := List.any_eq_true.2 ⟨_, List.mem_of_getElem? hc, by simp⟩
              simp only [SV.stays, SV.refs, this, Bool.and_self, Bool.not_true] at hst
              cases hst
          obtain ⟨rfl, hh⟩ := hkill hk
          rw [lookup_ins, if_pos rfl] at hl
          simp only [Option.some.injEq] at hl
          subst hl
          rcases hh with ⟨e1, xs1, xs2, h1, h2, h3⟩ | ⟨e1, cs1, cs2, h1, h2⟩ | ⟨k1, v1, k2, v2, h1, h2⟩
          · cases h2
          · exact g4 _ _ h1
          · cases h2
        · rw [hlook i hi, Option.map_eq_some_iff] at hl
          obtain ⟨ob0, h3, h4⟩ := hl
          cases ob0 with
          | arr e0 xs0 => simp [killOb] at h4
          | box e0 cs0 => rw [(hE i hi).2]; exact g4 e0 cs0 h3
          | mp k0 v0 => simp [killOb] at h4
    | omap i =>
      intro ks vs hl
      by_cases hi : i = id
      · subst hi
        have hk : kill = false := by cases kill <;> simp_all [SV.stays, SV.refs]
        obtain ⟨rfl, hh⟩ := hkill hk
        rw [lookup_ins, if_pos rfl] at hl
        simp only [Option.some.injEq] at hl
        subst hl
        rcases hh with ⟨e1, xs1, xs2, h1, h2, h3⟩ | ⟨e1, cs1, cs2, h1, h2⟩ | ⟨k1, v1, k2, v2, h1, h2⟩
        · cases h2
        · cases h2
        · exact hv _ _ h1
      · rw [hlook i hi, Option.map_eq_some_iff] at hl
        obtain ⟨ob0, h3, h4⟩ := hl
        cases ob0 with
        | arr e0 xs0 => simp [killOb] at h4
        | box e0 cs0 => simp [killOb] at h4
        | mp k0 v0 => rw [(hE i hi).2]; exact hv k0 v0 h3
    | dead => trivial
  refine ⟨h.size, h.defers, fun t d ht => ?_, fun i ob hi => ?_, fun i ob i' obx b h1 h2 h3 h4 => ?_, ?_, ?_⟩
  · obtain ⟨_, h2, h3⟩ := lookup_stays kill id s.s t d ht
    have := h.slots t d (lookup_of_nodup s.s t d hnd h3)
    exact ⟨this.1, sv _ _ this.2 h2⟩
  · by_cases hid : i = id
    · subst hid
      simp only [St.upd] at hi
      rw [lookup_ins, if_pos rfl] at hi
      simp only [Option.some.injEq] at hi
      subst hi
      exact hob rep sv
    · simp only [St.upd] at hi
      rw [hlook i hid, Option.map_eq_some_iff] at hi
      obtain ⟨ob0, h3, rfl⟩ := hi
      have h0 := h.wok.objs i ob0 h3
      cases ob0 with
      | arr e xs =>
        obtain ⟨vals, h1, h2, h4⟩ := h0
        refine ⟨vals, ?_, h2, fun j d hd => ⟨(h4 j d hd).1, rep .pl _ _ (h4 j d hd).2 (by simp)⟩⟩
        rw [(hE i hid).1]
        refine ⟨h1.1.kept hg ?_, h1.2⟩
        cases hb : (E.cur i).ownBlock with
        | none => exact .inl rfl
        | some b =>
          refine .inr fun he => ?_
          obtain ⟨ob, h5, h6⟩ := hrow b he.symm
          exact hid (h.wok.disj i _ id ob b h3 h5 hb h6)
      | box e cs =>
        obtain ⟨vals, h1, h2, h4, h5⟩ := h0
        refine ⟨vals, ?_, by rw [(hE i hid).2]; exact h2, by simpa using h4, fun j d hd => ?_⟩
        · rw [(hE i hid).2, hg.block _ ((h.wok.objs i _ h3).own_range rfl).2 (fun he => ?_)]
          · exact h1
          · obtain ⟨ob, h6, h7⟩ := hrow _ he.symm
            exact hid (h.wok.disj i _ id ob _ h3 h6 rfl h7)
        · rw [List.getElem?_map, Option.map_eq_some_iff] at hd
          obtain ⟨d0, hd0, rfl⟩ := hd
          have := h5 j d0 hd0
          split
          · exact ⟨this.1, this.2.1, sv _ _ this.2.2 ‹_›⟩
          · exact ⟨rfl, this.2.1, trivial⟩
      | mp ks vs =>
        obtain ⟨es, clock, h1, h2, h4, h5, h6⟩ := h0
        refine ⟨es, clock, ?_, by rw [(hE i hid).2]; exact h2, h4, h5, fun j d hd => rep .pl _ _ (h6 j d hd) (by simp)⟩
        rw [(hE i hid).2, hg.block _ ((h.wok.objs i _ h3).own_range rfl).2 (fun he => ?_)]
        · exact h1
        · obtain ⟨ob, h6, h7⟩ := hrow _ he.symm
          exact hid (h.wok.disj i _ id ob _ h3 h6 rfl h7)
  · simp only [St.upd] at h1 h2
    have back : ∀ i ob b, (ins id ob' (killO kill id s.o)).lookup i = some ob → ownB E' i b ob → i ≠ id → ∃ ob0, s.o.lookup i = some ob0 ∧ ownB E i b ob0 := by
      intro i ob b hl hb hi
      rw [hlook i hi, Option.map_eq_some_iff] at hl
      obtain ⟨ob0, h3, rfl⟩ := hl
      refine ⟨ob0, h3, ?_⟩
      cases ob0 <;> simp only [killOb, ownB, (hE i hi).1, (hE i hi).2] at hb ⊢ <;> exact hb
    have one : ∀ i ob b, (ins id ob' (killO kill id s.o)).lookup i = some ob → ownB E' i b ob → i ≠ id → ownB E' id b ob' → False := by
      intro i ob b hl hb hi hb'
      obtain ⟨ob0, h5, h6⟩ := back i ob b hl hb hi
      rcases hnew b hb' with ⟨ob1, h7, h8⟩ | h7
      · exact hi (h.wok.disj i ob0 id ob1 b h5 h7 h6 h8)
      · have := ((h.wok.objs i ob0 h5).own_range h6).2
        omega
    by_cases hi : i = id
    · by_cases hi' : i' = id
      · rw [hi, hi']
      · subst hi
        rw [lookup_ins, if_pos rfl] at h1
        simp only [Option.some.injEq] at h1
        subst h1
        exact (one i' _ b h2 h4 hi' h3).elim
    · by_cases hi' : i' = id
      · subst hi'
        rw [lookup_ins, if_pos rfl] at h2
        simp only [Option.some.injEq] at h2
        subst h2
        exact (one i _ b h1 h3 hi h4).elim
      · obtain ⟨ob0, h5, h6⟩ := back i ob b h1 h3 hi
        obtain ⟨ob1, h7, h8⟩ := back i' obx b h2 h4 hi'
        exact h.wok.disj i ob0 i' ob1 b h5 h7 h6 h8
  · exact h.wok.below.trans ⟨hg.os, hg.tape, hg.output, hg.size, fun k hk => hg.block k (by have := w0.hK k hk; have := h.wok.below.size; omega) (fun he => by
      obtain ⟨ob, h1, h2⟩ := hrow k he.symm
      exact ((h.wok.objs id ob h1).own_range h2).1.1 hk), hdr⟩
  · intro x hx
    by_cases hid : x.1 = id
    · rcases hpn with h1 | h1
      · exact absurd hid (h1 x hx)
      · rw [hid, h1, ← hid]; exact h.wok.pins x hx
    · rw [(hE x.1 hid).2]; exact h.wok.pins x hx
end
end Go.Am

namespace Go.Am
open Go.RowKit
set_option linter.unusedVariables false

def elOk (P : Program) (e : TypeId) (k b : Nat) : Bool :=
  match P.info? e with
  | some i => Nat.beq i.size k && Nat.beq i.bytes b && Nat.blt 0 k && (match i.zero with | some z => Nat.beq z.cells.size k | none => false)
  | none => false
theorem elOk_spec {P : Program} {e : TypeId} {k b : Nat} (h : elOk P e k b = true) : ∃ i z, P.info? e = some i ∧ i.zero = some z ∧ i.size = k ∧ i.bytes = b ∧ z.cells.size = k ∧ 0 < k ∧ P.cellsOf e = k := by
  unfold elOk at h
  split at h
  · rename_i i hi
    simp only [Bool.and_eq_true] at h
    obtain ⟨⟨⟨h1, h2⟩, h3⟩, h4⟩ := h
    split at h4
    · rename_i z hz
      exact ⟨i, z, hi, hz, Nat.eq_of_beq_eq_true h1, Nat.eq_of_beq_eq_true h2, Nat.eq_of_beq_eq_true h4, by simpa using h3, by unfold Program.cellsOf; rw [hi]; exact Nat.eq_of_beq_eq_true h1⟩
    · cases h4
  · cases h
theorem flat_append (xs ys : List AV) : flat (xs ++ ys) = flat xs ++ flat ys := by simp [flat]

section
variable {P : Program} {w0 : Fr} {M0 : Nat → Prop}

def Src (P : Program) (w0 : Fr) (M0 : Nat → Prop) (s : St) (y : Operand) (k : Nat) (ys : List AV) : Prop :=
  ∀ E a w, SimE P w0 M0 E s a w → ∃ (A : Option Addr) (n c : Nat) (vals : List Value), a.eval y = .slice A n c ∧ ys.length = n ∧ vals.length = n * k ∧
    (0 < n → ∃ ad, A = some ad ∧ ∀ (j : Nat) u, vals[j]? = some u → w.cell? (ad.add j) = some u) ∧ (∀ x ∈ ys, (AV.cells x).length = k) ∧
    ∀ (j : Nat) d, (flat ys)[j]? = some d → AV.leaf d = true ∧ Rep w (clsM M0 (owned E s.o) .pl) (vals.getD j undef) d
theorem src_of_rep {w : World} {M : Nat → Prop} {v : Value} {ys : List AV} {k : Nat} (hr : Rep w M v (.sl ys)) (hk : ∀ x ∈ ys, (AV.cells x).length = k) :
    ∃ (A : Option Addr) (n c : Nat) (vals : List Value), v = .slice A n c ∧ ys.length = n ∧ vals.length = n * k ∧
    (0 < n → ∃ ad, A = some ad ∧ ∀ (j : Nat) u, vals[j]? = some u → w.cell? (ad.add j) = some u) ∧
    ∀ (j : Nat) d, (flat ys)[j]? = some d → AV.leaf d = true ∧ Rep w M (vals.getD j undef) d := by
  cases hr with
  | sl a n cap _ k' cv hn hc hk' hb hl hr =>
    refine ⟨a, n, cap, (List.range (n * k)).map cv, rfl, hn, by simp, fun h0 => ?_, fun j d hd => ⟨hl j d hd, ?_⟩⟩
    · have hkk : k' = k := by
        cases ys with
        | nil => simp at hn; omega
        | cons x r => rw [← hk x List.mem_cons_self, hk' x List.mem_cons_self]
      subst hkk
      obtain ⟨b, o, rfl, _, _, hcell⟩ := hb h0
      refine ⟨_, rfl, fun j u hu => ?_⟩
      rw [List.getElem?_map] at hu
      rcases Nat.lt_or_ge j (n * k') with hj | hj
      · rw [List.getElem?_range hj] at hu
        simp only [Option.map_some, Option.some.injEq] at hu
        rw [Addr.add_lit, hcell j hj, hu]
      · rw [List.getElem?_eq_none (by simpa using hj)] at hu
        cases hu
    · have hlt : j < n * k := by
        have := flat_length ys hk
        rw [hn] at this
        rw [← this]; exact (List.getElem?_eq_some_iff.1 hd).1
      rw [List.getD_eq_getElem?_getD, List.getElem?_map, List.getElem?_range hlt]
      exact hr j d hd
theorem src_pl {s : St} {y : Operand} {k : Nat} {ys : List AV} (hy : viewAt s.ev s.o y = some (.pl, .sl ys)) (hk : ∀ x ∈ ys, (AV.cells x).length = k) : Src P w0 M0 s y k ys := by
  intro E a w hs
  obtain ⟨A, n, c, vals, h1, h2, h3, h4, h5⟩ := src_of_rep (viewAt_ok hs.wok (fun x e hx => hs.ev hx) hy) hk
  exact ⟨A, n, c, vals, h1, h2, h3, h4, hk, h5⟩
theorem src_sc {s : St} {y : Operand} {c : Cls} {k : Nat} {ys : List AV} (hy : viewAt s.ev s.o y = some (c, .sl ys)) (hk : ∀ x ∈ ys, (AV.cells x).length = k) (hsc : ∀ d ∈ flat ys, ∃ v, d = .sc v) : Src P w0 M0 s y k ys := by
  intro E a w hs
  obtain ⟨A, n, c, vals, h1, h2, h3, h4, h5⟩ := src_of_rep (viewAt_ok hs.wok (fun x e hx => hs.ev hx) hy) hk
  refine ⟨A, n, c, vals, h1, h2, h3, h4, hk, fun j d hd => ⟨(h5 j d hd).1, ?_⟩⟩
  have h6 := (h5 j d hd).2
  obtain ⟨v, rfl⟩ := hsc d (List.mem_of_getElem? hd)
  generalize vals.getD j undef = u at h6
  cases h6
  exact .sc _ ‹_›
theorem SimE.newArr {E : Env} {s : St} {a : Act} {w w' : World} {t : Nat} {e : TypeId} {xs : List AV} {v : Value} {vals : List Value} (h : SimE P w0 M0 E s a w) (hnd : Nodup s.s = true) (hM0 : ∀ b, M0 b → b < w0.w.heap.size)
    (hg : w.grownBy w' none) (hdr : w0.dr → w.drawn ≤ w'.drawn) (hown : w'.ownsRow 0 e (P.cellsOf e) v xs.length vals) (hblk : ∀ b, v.ownBlock = some b → w.heap.size ≤ b) (hk : ∀ x ∈ xs, (AV.cells x).length = P.cellsOf e)
    (hr : ∀ (j : Nat) d, (flat xs)[j]? = some d → AV.leaf d = true ∧ (Rep w (clsM M0 (owned E s.o) .pl) (vals.getD j undef) d ∨ Rep w' (fun b => b < w.heap.size ∨ v.ownBlock = some b) (vals.getD j undef) d)) :
    SimE P w0 M0 { E with cur := fun i => if i = t then v else E.cur i } (s.upd true t (.arr e xs)) a w' := by
  refine h.upd true (fun h => by cases h) hnd hM0 (fun i hi => ⟨by simp [hi], rfl⟩) (.inr rfl) none hg hdr (fun g hg => by cases hg) (fun b hb => .inr ?_) (fun rep _ => ?_)
  · simp only [ownB, if_true] at hb
    exact hblk b hb
  · refine ⟨vals, ⟨by simpa using hown, fun b hb => h.wok.new_free hM0 (hblk b (by simpa using hb))⟩, hk, fun j d hd => ⟨(hr j d hd).1, ?_⟩⟩
    rcases (hr j d hd).2 with h1 | h1
    · exact rep .pl _ _ h1 (by simp)
    · refine h1.weak fun b hb => ?_
      rcases hb with hb | ⟨i, ob, h3, h4⟩
      · have := hM0 b hb; have := h.wok.below.size; exact .inl (by omega)
      · by_cases hi : i = t
        · subst hi
          rw [lookup_ins, if_pos rfl] at h3
          simp only [Option.some.injEq] at h3
          subst h3
          simp only [ownB, if_true] at h4
          exact .inr h4
        · rw [lookup_ins, if_neg hi, lookup_killO, Option.map_eq_some_iff] at h3
          obtain ⟨ob0, h5, rfl⟩ := h3
          refine .inl (h.wok.owned_range ⟨i, ob0, h5, ?_⟩).2
          cases ob0 <;> simp only [killOb, ownB, hi, if_false] at h4 ⊢ <;> exact h4
theorem sv_own_new {w : World} {E : Env} {o : List (Nat × Ob)} {t : Nat} {v : Value} {e : TypeId} {xs : List AV} : SVok P M0 w { E with cur := fun i => if i = t then v else E.cur i } (ins t (.arr e xs) o) v (.own t) := by
  intro e' xs' _
  simp

variable {o : Oper} {s : St} {t id : Nat} {x y : Operand} {T e : TypeId} {k b : Nat} {xs ys : List AV}

theorem step_append (ho : o.op = .call { callee := .builtin .append, args := #[x, y], argTypes := #[T, T] }) (hd : o.dst = some t) (hn : Nat.blt t s.n = true) (hnd : Nodup s.s = true)
    (hT : P.underlying T = some (.slice e)) (hel : elOk P e k b = true) (hx : s.ev x = some (.own id)) (hl : s.o.lookup id = some (.arr e xs)) (hM0 : ∀ b, M0 b → b < w0.w.heap.size)
    (hy : Src P w0 M0 s y k ys) (hb : (xs.length + ys.length) * b ≤ 140737488355328) (hm : xs.length + ys.length ≤ 4611686018427387904) : Step P w0 M0 o s ((s.upd true id (.arr e (xs ++ ys))).put t (.own id)) := by
  rintro a w Q ⟨E, hs⟩
  obtain ⟨i, z, hi, hz, hsz, hby, hzs, hk0, hck⟩ := elOk_spec hel
  obtain ⟨vals0, ⟨hown, hownF⟩, hxk, hxr⟩ := hs.wok.objs id _ hl
  obtain ⟨A, n, c, vals, hev, hyn, hvl, hcell, hyk, hyr⟩ := hy E a w hs
  have hex := hs.ev hx e xs hl
  rw [hck] at hown hxk
  have hfy := flat_length ys hyk
  have hone : ∀ u ∈ vals, u.oneCell' = true := by
    intro u hu
    obtain ⟨j, hj, rfl⟩ := List.getElem_of_mem hu
    have hjf : j < (flat ys).length := by rw [hfy, hyn, ← hvl]; exact hj
    have := hyr j (flat ys)[j] (List.getElem?_eq_getElem hjf)
    have h2 := this.2.one this.1
    rwa [List.getD_eq_getElem?_getD, List.getElem?_eq_getElem hj] at h2
  have run : ∃ v' w', (Builtin.append_ #[T, T] o.type #[E.cur id, .slice A n c]).run P w = .ok v' w' ∧ w'.ownsRow 0 e k v' (xs.length + n) (vals0 ++ vals) ∧ w.grownBy w' (E.cur id).ownBlock ∧
      (v'.ownBlock = (E.cur id).ownBlock ∨ v'.ownBlock = some w.heap.size) := by
    rcases Nat.eq_zero_or_pos n with h0 | h0
    · subst h0
      have hv0 : vals = [] := List.eq_nil_of_length_eq_zero (by simpa using hvl)
      subst hv0
      refine ⟨E.cur id, w, ?_, by simpa using hown, ⟨rfl, rfl, rfl, Nat.le_refl _, fun _ _ _ => rfl⟩, .inl rfl⟩
      have hfc : (Builtin.firstCells i.size 0 (.slice A 0 c)).run P w = .ok #[] w := by
        cases A <;> simp [Builtin.firstCells, loadCells, loadCellsFrom]
      rcases hown.2 with ⟨hv, _⟩ | ⟨g, cap, cur, hv, _, _, hnc, _⟩
      · rw [hv]
        simp [Builtin.append_, run_underlying hT, sizeOf, typeInfo, hi, Builtin.lenOf, hfc]
      · rw [hv]
        simp [Builtin.append_, run_underlying hT, sizeOf, typeInfo, hi, Builtin.lenOf, hfc, hnc, storeCells]
    · obtain ⟨ad, rfl, hcell'⟩ := hcell h0
      obtain ⟨v', w', h1, h2, h3, _, h5⟩ := run_append_own_at (P := P) w 0 T o.type e i z k b hT hi hz hsz hby hzs hk0 (E.cur id) xs.length vals0 hown ad n c vals hvl hcell' hone
        (by simp only [maxLen]; omega) (by rw [← hyn]; exact hb) (Nat.zero_le _)
      exact ⟨v', w', h1, h2, h3, h5⟩
  obtain ⟨v', w', hrun, hown', hg, hblk⟩ := run
  unfold Oper.wp
  have hexec : (execOp a.eval o).run P w = .ok (.value v') w' := by
    simp [execOp, ho, resolve, invoke, builtin, hex, hev, hrun]
  rw [hexec]
  simp only [Oper.upon, hd]
  refine ⟨{ E with cur := fun i => if i = id then v' else E.cur i }, SimE.put ?_ (by simpa [St.upd] using hn) sv_own_new⟩
  refine hs.upd true (fun h => by cases h) hnd hM0 (fun j hj => ⟨by simp [hj], rfl⟩) (.inr rfl) (E.cur id).ownBlock hg (fun _ => run_drawn _ _ _ _ hrun) (fun g hg => ⟨_, hl, hg⟩) (fun b hb => ?_) (fun rep _ => ?_)
  · simp only [ownB, if_true] at hb
    rcases hblk with h1 | h1
    · exact .inl ⟨_, hl, by rw [h1] at hb; exact hb⟩
    · rw [h1] at hb; simp only [Option.some.injEq] at hb; exact .inr (by omega)
  · have hfx := flat_length xs hxk
    refine ⟨vals0 ++ vals, ?_, ?_, fun j d hd => ?_⟩
    · refine ⟨by simp only [if_true, hck, List.length_append, hyn]; exact hown', fun b hb => ?_⟩
      simp only [if_true] at hb
      rcases hblk with h1 | h1
      · exact hownF b (h1 ▸ hb)
      · rw [h1] at hb; simp only [Option.some.injEq] at hb; exact hs.wok.new_free hM0 (by omega)
    · rw [hck]; intro u hu
      rcases List.mem_append.1 hu with h | h
      · exact hxk u h
      · exact hyk u h
    · have hl0 : vals0.length = (flat xs).length := by rw [hfx, hown.1]
      rw [flat_append] at hd
      rcases Nat.lt_or_ge j (flat xs).length with hj | hj
      · rw [List.getElem?_append_left hj] at hd
        have := hxr j d hd
        refine ⟨this.1, ?_⟩
        rw [List.getD_eq_getElem?_getD, List.getElem?_append_left (by omega), ← List.getD_eq_getElem?_getD]
        exact rep .pl _ _ this.2 (by simp)
      · rw [List.getElem?_append_right hj] at hd
        have := hyr _ d hd
        refine ⟨this.1, ?_⟩
        rw [List.getD_eq_getElem?_getD, List.getElem?_append_right (by omega), hl0, ← List.getD_eq_getElem?_getD]
        exact rep .pl _ _ this.2 (by simp)

theorem step_nil (ho : o.op = .assign x) (hd : o.dst = some t) (hn : Nat.blt t s.n = true) (hnd : Nodup s.s = true) (hx : scal s.ev x = some (.slice none 0 0)) (e : TypeId) (hM0 : ∀ b, M0 b → b < w0.w.heap.size) :
    Step P w0 M0 o s ((s.upd true t (.arr e [])).put t (.own t)) := by
  rintro a w Q ⟨E, hs⟩
  have hv : a.eval x = .slice none 0 0 := scal_ok (ρ := s.ev) (x := x) (ob := s.o) (ev := a.eval) (fun x e hx => hs.ev hx) hx
  unfold Oper.wp
  have hexec : (execOp a.eval o).run P w = .ok (.value (.slice none 0 0)) w := by simp [execOp, ho, hv]
  rw [hexec]
  simp only [Oper.upon, hd]
  refine ⟨{ E with cur := fun i => if i = t then .slice none 0 0 else E.cur i }, SimE.put ?_ (by simpa [St.upd] using hn) sv_own_new⟩
  exact hs.newArr hnd hM0 ⟨rfl, rfl, rfl, Nat.le_refl _, fun _ _ _ => rfl⟩ (fun _ => Nat.le_refl _) (vals := []) (World.ownsRow_nil w _ _ _) (fun b hb => by cases hb) (fun x hx => by cases hx) (fun j d hd => by simp [flat] at hd)

theorem step_append_nil (ho : o.op = .call { callee := .builtin .append, args := #[x, y], argTypes := #[T, T] }) (hd : o.dst = some t) (hn : Nat.blt t s.n = true) (hnd : Nodup s.s = true)
    (hT : P.underlying T = some (.slice e)) (hel : elOk P e k b = true) (hx : scal s.ev x = some (.slice none 0 0)) (hM0 : ∀ b, M0 b → b < w0.w.heap.size)
    (hy : Src P w0 M0 s y k ys) (hb : ys.length * b ≤ 140737488355328) (hm : ys.length ≤ 4611686018427387904) : Step P w0 M0 o s ((s.upd true t (.arr e ys)).put t (.own t)) := by
  rintro a w Q ⟨E, hs⟩
  obtain ⟨i, z, hi, hz, hsz, hby, hzs, hk0, hck⟩ := elOk_spec hel
  obtain ⟨A, n, c, vals, hev, hyn, hvl, hcell, hyk, hyr⟩ := hy E a w hs
  have hex : a.eval x = .slice none 0 0 := scal_ok (ρ := s.ev) (x := x) (ob := s.o) (ev := a.eval) (fun x e hx => hs.ev hx) hx
  have hfy := flat_length ys hyk
  have hone : ∀ u ∈ vals, u.oneCell' = true := by
    intro u hu
    obtain ⟨j, hj, rfl⟩ := List.getElem_of_mem hu
    have hjf : j < (flat ys).length := by rw [hfy, hyn, ← hvl]; exact hj
    have := hyr j (flat ys)[j] (List.getElem?_eq_getElem hjf)
    have h2 := this.2.one this.1
    rwa [List.getD_eq_getElem?_getD, List.getElem?_eq_getElem hj] at h2
  have run : ∃ v' w', (Builtin.append_ #[T, T] o.type #[.slice none 0 0, .slice A n c]).run P w = .ok v' w' ∧ w'.ownsRow 0 e k v' n vals ∧ w.grownBy w' none ∧ (∀ b, v'.ownBlock = some b → w.heap.size ≤ b) := by
    rcases Nat.eq_zero_or_pos n with h0 | h0
    · subst h0
      have hv0 : vals = [] := List.eq_nil_of_length_eq_zero (by simpa using hvl)
      subst hv0
      refine ⟨.slice none 0 0, w, ?_, World.ownsRow_nil w _ _ _, ⟨rfl, rfl, rfl, Nat.le_refl _, fun _ _ _ => rfl⟩, fun b hb => by cases hb⟩
      have hfc : (Builtin.firstCells i.size 0 (.slice A 0 c)).run P w = .ok #[] w := by
        cases A <;> simp [Builtin.firstCells, loadCells, loadCellsFrom]
      simp [Builtin.append_, run_underlying hT, sizeOf, typeInfo, hi, Builtin.lenOf, hfc]
    · obtain ⟨ad, rfl, hcell'⟩ := hcell h0
      obtain ⟨v', w', h1, h2, h3, _, h5⟩ := run_append_own_at (P := P) w 0 T o.type e i z k b hT hi hz hsz hby hzs hk0 (.slice none 0 0) 0 [] (World.ownsRow_nil w _ _ _) ad n c vals hvl hcell' hone
        (by simp only [maxLen]; omega) (by rw [← hyn, Nat.zero_add]; exact hb) (Nat.zero_le _)
      refine ⟨v', w', h1, by simpa using h2, h3, fun b hb => ?_⟩
      rcases h5 with h5 | h5
      · rw [h5] at hb; cases hb
      · rw [h5] at hb; simp only [Option.some.injEq] at hb; omega
  obtain ⟨v', w', hrun, hown', hg, hblk⟩ := run
  unfold Oper.wp
  have hexec : (execOp a.eval o).run P w = .ok (.value v') w' := by
    simp [execOp, ho, resolve, invoke, builtin, hex, hev, hrun]
  rw [hexec]
  simp only [Oper.upon, hd]
  refine ⟨{ E with cur := fun i => if i = t then v' else E.cur i }, SimE.put ?_ (by simpa [St.upd] using hn) sv_own_new⟩
  exact hs.newArr hnd hM0 hg (fun _ => run_drawn _ _ _ _ hrun) (vals := vals) (by rw [hck, hyn]; exact hown') hblk (by rw [hck]; exact hyk) (fun j d hd => ⟨(hyr j d hd).1, .inl (hyr j d hd).2⟩)

theorem step_call_own {cx : Operand} {args : Array Operand} {ats : Array TypeId} {c : Cls} {f : FuncId} {caps ds : List AV}
    (ho : o.op = .call { callee := .value cx, args := args, argTypes := ats }) (hd : o.dst = some t) (hn : Nat.blt t s.n = true) (hnd : Nodup s.s = true) (hc : s.ev cx = some (.v c (.clo f caps))) (ha : viewAll s.ev s.o args.toList = some ds) (h : CallF P f (ds ++ caps) (.fresh e xs))
    (hM0 : ∀ b, M0 b → b < w0.w.heap.size) : Step P w0 M0 o s ((s.upd true t (.arr e xs)).put t (.own t)) := by
  rintro a w Q ⟨E, hs⟩
  have hcv := hs.ev hc
  simp only [SVok] at hcv
  generalize hq : a.eval cx = q at hcv
  cases hcv with
  | clo _ vs _ hnc hr =>
    have hv := viewAll_ok hs.wok (fun x e hx => hs.ev hx) _ _ ha
    unfold Oper.wp
    rw [run_call ho hq h.1]
    simp only [Oper.upon]
    have hall := h.2 w (args.toList.map a.eval ++ vs) (by simp [hv.1, hnc]) (fun j d hd => ?_)
    · have e1 : (args.toList.map a.eval ++ vs).toArray = args.map a.eval ++ vs.toArray := by apply Array.ext' ; simp
      rw [e1] at hall
      refine hall.mono fun e' w' ⟨v, he, hb, hrv⟩ => ?_
      subst he
      obtain ⟨vals, h1, h2, h3⟩ := hrv
      simp only [hd]
      refine ⟨{ E with cur := fun i => if i = t then v else E.cur i }, SimE.put ?_ (by simpa [St.upd] using hn) sv_own_new⟩
      refine hs.newArr hnd hM0 (grownBy_of_below hb) (fun _ => hb.drawn trivial) (vals := vals) ?_ (fun b hb => Nat.le_of_not_lt (h1.2 b hb)) h2 (fun j d hd => ⟨(h3 j d hd).1, .inr (h3 j d hd).2⟩)
      exact h1.1
    · rw [List.getD_eq_getElem?_getD]
      rcases Nat.lt_or_ge j ds.length with hlt | hge
      · rw [List.getElem?_append_left hlt] at hd
        have := hv.2 j d hd
        rw [List.getElem?_append_left (by simp [hv.1]; omega)]
        rwa [List.getD_eq_getElem?_getD] at this
      · rw [List.getElem?_append_right hge] at hd
        have := hr _ d hd
        rw [List.getElem?_append_right (by simp [hv.1]; omega)]
        simp only [List.length_map, hv.1]
        rw [List.getD_eq_getElem?_getD] at this
        exact this.weak (fun b hb => hb.elim)
end
end Go.Am

