/-
  Regions as lists of operations; guards; states cut down to what is read later; loops with a measure in the invariant; numbers without wrap.
-/
import Derived.Test.YtjimlkpfmbachaaGreatJ3
set_option linter.unusedVariables false
set_option linter.unusedSectionVars false
set_option linter.unusedSimpArgs false
namespace Go.Am
open Go.RowKit
set_option linter.unusedVariables false

abbrev int (n : Int) : AV := .sc (.int .i64 n)
abbrev bool (b : Bool) : AV := .sc (.bool b)
abbrev str (s : ByteArray) : AV := .sc (.string s)
abbrev ints (l : List Int) : AV := .sl (l.map int)
abbrev intss (l : List (List Int)) : AV := .sl (l.map ints)

theorem wrap64 {x : Int} (h : -9223372036854775808 ≤ x) (h' : x ≤ 9223372036854775807) : IntKind.i64.wrap x = x := IntWalk.i64_in x ⟨h, h'⟩

section
variable {P : Program} {w0 : Fr} {M0 : Nat → Prop}

def guardB (ops : Array Oper) (ρ : Operand → Option SV) (o : Oper) : Option Bool :=
  match o.guard with
  | none => none
  | some (j, _) => match (ops[j]?).bind (·.dst) with
    | none => none
    | some t => match ρ (.tmp t) with
      | some (.v _ (.sc (.bool b))) => some b
      | _ => none
theorem guardOf_of {ops : Array Oper} {ρ : Operand → Option SV} {o : Oper} {b : Bool} {j : Nat} {want : Bool} (hw : o.guard = some (j, want)) (h : guardB ops ρ o = some b) : guardOf ops ρ o = some (b == want) := by
  unfold guardB at h
  unfold guardOf
  simp only [hw] at h ⊢
  split at h
  · cases h
  · rename_i t ht
    split at h
    · rename_i c b' hb
      simp only [Option.some.injEq] at h
      subst h
      rw [ht]; simp only [hb]
    · cases h

def OpsL (P : Program) (w0 : Fr) (M0 : Nat → Prop) (ops : Array Oper) (Q : St → Prop) : List Oper → St → Prop
  | [], s => ∃ s1, Imp P w0 M0 s s1 ∧ Q s1
  | o :: rest, s => ∃ s1, Imp P w0 M0 s s1 ∧ ∃ s', ((guardOf ops s1.ev o = some true ∧ Step P w0 M0 o s1 s') ∨ (guardOf ops s1.ev o = some false ∧ ∃ t, o.dst = some t ∧ t < s1.n ∧ s' = s1.put t (.v .pl (.tup [])))) ∧ OpsL P w0 M0 ops Q rest s'
variable {ops : Array Oper} {Q : St → Prop} {s s' : St} {o : Oper} {rest : List Oper} {t : Nat} {d : SV}
theorem opsOk_of_opsL : ∀ (l : List Oper) (k : Nat) (s : St), (∀ j, l[j]? = ops[k + j]?) → OpsL P w0 M0 ops Q l s → OpsOk P w0 M0 ops (List.range' k l.length) s Q
  | [], k, s, _, h => by
    obtain ⟨s1, hi, hq⟩ := h
    exact fun a w hs => ops_nil hq a w (hi a w hs)
  | o :: rest, k, s, hl, h => by
    obtain ⟨s1, hi, s', h1, h2⟩ := h
    have ho : ops[k]? = some o := by have := hl 0; simpa using this.symm
    have ih := opsOk_of_opsL rest (k + 1) s' (fun j => by have := hl (j + 1); rw [List.getElem?_cons_succ] at this; rw [this]; congr 1; omega) h2
    rw [List.length_cons, List.range'_succ]
    rcases h1 with ⟨hg, hs⟩ | ⟨hg, t, ht, hn, rfl⟩
    · exact fun a w hsim => ops_step ho hg hs ih a w (hi a w hsim)
    · exact fun a w hsim => ops_skip ho hg ht hn ih a w (hi a w hsim)
theorem OpsL.imp {l : List Oper} (hi : Imp P w0 M0 s s') (h : OpsL P w0 M0 ops Q l s') : OpsL P w0 M0 ops Q l s := by
  cases l with
  | nil => obtain ⟨s1, h1, h2⟩ := h; exact ⟨s1, hi.trans h1, h2⟩
  | cons o r => obtain ⟨s1, h1, h2⟩ := h; exact ⟨s1, hi.trans h1, h2⟩
def Sub (s1 s : St) : Prop := s1.n = s.n ∧ s1.o = s.o ∧ ∀ t d, s1.s.lookup t = some d → s.s.lookup t = some d
theorem Sub.refl (s : St) : Sub s s := ⟨rfl, rfl, fun _ _ h => h⟩
theorem Sub.trans {a b c : St} (h : Sub a b) (h' : Sub b c) : Sub a c := ⟨h.1.trans h'.1, h.2.1.trans h'.2.1, fun t d hd => h'.2.2 t d (h.2.2 t d hd)⟩
theorem Sub.put {a b : St} (h : Sub a b) (t : Nat) (d : SV) : Sub (a.put t d) (b.put t d) := ⟨h.1, h.2.1, fun u e he => by
  simp only [St.put] at he ⊢
  rw [lookup_ins] at he ⊢
  by_cases hu : u = t
  · rw [if_pos hu] at he ⊢; exact he
  · rw [if_neg hu] at he ⊢; exact h.2.2 u e he⟩
theorem Sub.imp {a b : St} (h : Sub a b) : Imp P w0 M0 b a := imp_slots h.1 h.2.1 h.2.2
theorem Sub.ev {a b : St} (h : Sub a b) {x : Operand} {d : SV} (hx : a.ev x = some d) : b.ev x = some d := by
  cases x with
  | tmp t => exact h.2.2 t d hx
  | const v => exact hx
  | func f => exact hx
  | global g => exact hx
theorem Sub.guard {a b : St} (h : Sub a b) {o : Oper} {g : Bool} (hg : guardOf ops a.ev o = some g) : guardOf ops b.ev o = some g := by
  unfold guardOf at hg ⊢
  cases h0 : o.guard with
  | none => simp only [h0] at hg ⊢; exact hg
  | some jw =>
    obtain ⟨j, want⟩ := jw
    simp only [h0] at hg ⊢
    cases ht : (ops[j]?).bind (·.dst) with
    | none => simp only [ht] at hg; cases hg
    | some t =>
      simp only [ht] at hg ⊢
      split at hg
      · rename_i c q hq; simp only [h.ev hq]; exact hg
      · rename_i c hq; simp only [h.ev hq]; exact hg
      · cases hg
theorem Sub.pure {a b : St} (h : Sub a b) {o : Oper} {d : SV} (hp : Pure P w0 M0 o (restr ops o a.ev) a.o d) : Pure P w0 M0 o (restr ops o b.ev) b.o d := by
  intro E w ev hw hx
  rw [← h.2.1] at hw
  have := hp E w ev hw (fun x e he => by
    rw [h.2.1]
    refine hx x e ?_
    cases x with
    | tmp t =>
      by_cases hc : (looks ops o).contains t = true
      · simp only [restr, hc, if_true] at he ⊢; exact h.ev he
      · simp only [restr, hc] at he; cases he
    | const v => exact he
    | func f => exact he
    | global g => exact he)
  rwa [h.2.1] at this
theorem EndL.imp {Q : St → Prop} {m : Nat} {s s' : St} (hi : Imp P w0 M0 s' s) (he : EndL P w0 M0 ops Q m s) : EndL P w0 M0 ops Q m s' :=
  fun f L a w hL hiff hs hf => he f L a w hL hiff (hi a w hs) hf
def DrawS (P : Program) (w0 : Fr) (M0 : Nat → Prop) (ops : Array Oper) (Q : St → Prop) : List Oper → Nat → St → Prop
  | [], _, s => ∃ s1, Sub s1 s ∧ Q s1
  | o :: rest, i, s => ∃ s1, Sub s1 s ∧
    ((∃ t, o.dst = some t ∧ t < s1.n ∧ ∃ g, guardOf ops s1.ev o = some g ∧ ∃ d, (g = true → Pure P w0 M0 o (restr ops o s1.ev) s1.o d) ∧ (g = false → d = .v .pl (.tup [])) ∧ DrawS P w0 M0 ops Q rest (i + 1) (s1.put t d)) ∨
    (tailOk ops i = true ∧ TailL P w0 M0 Q (o :: rest) s1) ∨ (phaseOk ops i = true ∧ EndL P w0 M0 ops (fun s => ∃ s', Imp P w0 M0 s s' ∧ Q s') i s1))
theorem drawL_of_drawS : ∀ (l : List Oper) (i : Nat) (s1 s : St), Sub s1 s → DrawS P w0 M0 ops Q l i s1 → DrawL P w0 M0 ops (fun s => ∃ s', Imp P w0 M0 s s' ∧ Q s') l i s
  | [], i, s1, s, hs, ⟨s2, h2, hq⟩ => ⟨s2, (h2.trans hs).imp, hq⟩
  | o :: rest, i, s1, s, hs, ⟨s2, h2, h⟩ => by
    have hs2 := h2.trans hs
    rcases h with ⟨t, ht, hn, g, hg, d, h1, h0, hr⟩ | ⟨htl, hg, s', hst, hq⟩ | ⟨htl, hq⟩
    · exact .inl ⟨t, ht, by rw [← hs2.1]; exact hn, g, hs2.guard hg, d, fun h => hs2.pure (h1 h), h0, drawL_of_drawS rest (i + 1) _ _ (hs2.put t d) hr⟩
    · exact .inr (.inl ⟨htl, hg, s', fun a w Q hsim => hst a w Q (hs2.imp a w hsim), hq.mono fun s'' h => ⟨s'', Imp.refl _, h⟩⟩)
    · exact .inr (.inr ⟨htl, hq.imp hs2.imp⟩)
theorem code_ops {id : Nat} {Q' : Exit → St → Prop} (l : List Oper) (hl : ops.toList = l) (h : OpsL P w0 M0 ops (Q' .normal) l s) : CodeOk P w0 M0 (.region id ops false) s Q' := by
  subst hl
  refine code_region _ rfl ?_
  have := opsOk_of_opsL ops.toList 0 s (fun j => by simp) h
  rwa [Array.length_toList, ← List.range_eq_range'] at this
theorem code_draw {id : Nat} {Q' : Exit → St → Prop} (hm : P.follows .mixedOrders = true) (hok : drawOk ops = true) (l : List Oper) (hl : ops.toList = l) (h : DrawS P w0 M0 ops (Q' .normal) l 0 s) : CodeOk P w0 M0 (.region id ops true) s Q' := by
  subst hl
  have := wp_region_drawL (id := id) hm hok (drawL_of_drawS _ _ _ _ (Sub.refl s) h) (Q' := fun e s => match e with | .normal => ∃ s', Imp P w0 M0 s s' ∧ Q' .normal s' | _ => False) (fun s h => h)
  intro a w hsim
  refine wp_mono (this a w hsim) fun e a' w' ⟨s', h1, h2⟩ => ?_
  cases e with
  | normal => obtain ⟨s2, hi, hq⟩ := h1; exact ⟨s2, hq, hi a' w' h2⟩
  | _ => exact h1.elim

theorem ol_nil (h : Q s) : OpsL P w0 M0 ops Q [] s := ⟨s, Imp.refl _, h⟩
theorem ol_skip_u (hg : guardOf ops s.ev o = some false) (ht : o.dst = some t) (hn : Nat.blt t s.n = true) (hr : OpsL P w0 M0 ops Q rest (s.put t (.v .pl (.tup [])))) : OpsL P w0 M0 ops Q (o :: rest) s :=
  ⟨s, Imp.refl _, _, .inr ⟨hg, t, ht, by simpa using hn, rfl⟩, hr⟩
variable {i : Nat}
theorem dl_nil (h : Q s) : DrawS P w0 M0 ops Q [] i s := ⟨s, Sub.refl _, h⟩
theorem dl_pure (hg : o.guard = none) (ht : o.dst = some t) (hn : Nat.blt t s.n = true) (h : Pure P w0 M0 o (restr ops o s.ev) s.o d) (hr : DrawS P w0 M0 ops Q rest (i + 1) (s.put t d)) : DrawS P w0 M0 ops Q (o :: rest) i s :=
  ⟨s, Sub.refl _, .inl ⟨t, ht, by simpa using hn, true, by unfold guardOf; rw [hg], d, fun _ => h, fun h => (by cases h), hr⟩⟩
theorem dl_tails (ht : tailOk ops i = true) (h : TailL P w0 M0 Q (o :: rest) s) : DrawS P w0 M0 ops Q (o :: rest) i s := ⟨s, Sub.refl _, .inr (.inl ⟨ht, h⟩)⟩
theorem dl_ends (ht : phaseOk ops i = true) (h : EndL P w0 M0 ops (fun s => ∃ s', Imp P w0 M0 s s' ∧ Q s') i s) : DrawS P w0 M0 ops Q (o :: rest) i s := ⟨s, Sub.refl _, .inr (.inr ⟨ht, h⟩)⟩
theorem tl_step {s' : St} (hg : o.guard = none) (h : Step P w0 M0 o s s') (hr : TailL P w0 M0 Q rest s') : TailL P w0 M0 Q (o :: rest) s := ⟨hg, s', h, hr⟩
theorem tl_pure (hg : o.guard = none) (ht : o.dst = some t) (hn : Nat.blt t s.n = true) (h : Pure P w0 M0 o s.ev s.o d) (hr : TailL P w0 M0 Q rest (s.put t d)) : TailL P w0 M0 Q (o :: rest) s :=
  ⟨hg, _, step_pure ht (by simpa using hn) h, hr⟩
theorem tl_nil (h : Q s) : TailL P w0 M0 Q [] s := h
theorem dl_pure_g {j : Nat} {want b : Bool} (hw : o.guard = some (j, want)) (hg : guardB ops s.ev o = some b) (hb : b = want) (ht : o.dst = some t) (hn : Nat.blt t s.n = true) (h : Pure P w0 M0 o (restr ops o s.ev) s.o d)
    (hr : DrawS P w0 M0 ops Q rest (i + 1) (s.put t d)) : DrawS P w0 M0 ops Q (o :: rest) i s :=
  ⟨s, Sub.refl _, .inl ⟨t, ht, by simpa using hn, true, by rw [guardOf_of hw hg, hb]; cases want <;> rfl, d, fun _ => h, fun h => (by cases h), hr⟩⟩
theorem dl_skip_g {j : Nat} {want b : Bool} (hw : o.guard = some (j, want)) (hg : guardB ops s.ev o = some b) (hb : b = !want) (ht : o.dst = some t) (hn : Nat.blt t s.n = true)
    (hr : DrawS P w0 M0 ops Q rest (i + 1) (s.put t (.v .pl (.tup [])))) : DrawS P w0 M0 ops Q (o :: rest) i s :=
  ⟨s, Sub.refl _, .inl ⟨t, ht, by simpa using hn, false, by rw [guardOf_of hw hg, hb]; cases want <;> rfl, _, fun h => (by cases h), fun _ => rfl, hr⟩⟩
theorem dl_skip_u (hg : guardOf ops s.ev o = some false) (ht : o.dst = some t) (hn : Nat.blt t s.n = true) (hr : DrawS P w0 M0 ops Q rest (i + 1) (s.put t (.v .pl (.tup [])))) : DrawS P w0 M0 ops Q (o :: rest) i s :=
  ⟨s, Sub.refl _, .inl ⟨t, ht, by simpa using hn, false, hg, _, fun h => (by cases h), fun _ => rfl, hr⟩⟩
theorem dl_guard {b : Bool} {l : List Oper} (hg : guardB ops s.ev o = some b) (h1 : b = true → DrawS P w0 M0 ops Q (o :: l) i s) (h0 : b = false → DrawS P w0 M0 ops Q (o :: l) i s) : DrawS P w0 M0 ops Q (o :: l) i s := by
  cases b
  · exact h0 rfl
  · exact h1 rfl

def Has (s : St) : List (Nat × SV) → Prop
  | [] => True
  | (t, d) :: r => s.s.lookup t = some d ∧ Has s r
def HasO (s : St) : List (Nat × Ob) → Prop
  | [] => True
  | (t, d) :: r => s.o.lookup t = some d ∧ HasO s r
theorem Has.out {s : St} : ∀ {l : List (Nat × SV)}, Has s l → ∀ t d, l.lookup t = some d → s.s.lookup t = some d
  | [], _, t, d, h => by simp at h
  | (u, e) :: r, h, t, d, hl => by
    rw [lookup_cons'] at hl
    split at hl
    · rename_i he
      subst he
      simp only [Option.some.injEq] at hl
      subst hl
      exact h.1
    · exact Has.out h.2 t d hl
theorem HasO.out {s : St} : ∀ {l : List (Nat × Ob)}, HasO s l → ∀ t d, l.lookup t = some d → s.o.lookup t = some d
  | [], _, t, d, h => by simp at h
  | (u, e) :: r, h, t, d, hl => by
    rw [lookup_cons'] at hl
    split at hl
    · rename_i he
      subst he
      simp only [Option.some.injEq] at hl
      subst hl
      exact h.1
    · exact HasO.out h.2 t d hl
theorem clsM_mono {own own' : Nat → Prop} (h : ∀ b, own' b → own b) (c : Cls) : ∀ b, clsM M0 own' c b → clsM M0 own c b := by
  intro b hb
  cases c with
  | pl => exact hb.imp id (h b)
  | mx => exact h b hb
  | vw => exact hb
theorem SVok.fewer {w : World} {E : Env} {o o' : List (Nat × Ob)} (h : ∀ id ob, o'.lookup id = some ob → o.lookup id = some ob) {v : Value} {d : SV} (hv : SVok P M0 w E o v d) : SVok P M0 w E o' v d := by
  have hown : ∀ b, owned E o' b → owned E o b := fun b ⟨id, ob, h1, h2⟩ => ⟨id, ob, h id ob h1, h2⟩
  cases d with
  | v c d => exact Rep.weak hv (clsM_mono hown c)
  | own id => exact fun e xs hl => hv e xs (h _ _ hl)
  | pel id i off => exact fun e xs hl => hv e xs (h _ _ hl)
  | pbox id off => exact fun e xs hl => hv e xs (h _ _ hl)
  | omap id => exact fun e xs hl => hv e xs (h _ _ hl)
  | vsl id i n => exact fun e xs hl => hv e xs (h _ _ hl)
  | fn f caps =>
    obtain ⟨vs, h1, h2, h3⟩ := hv
    refine ⟨vs, h1, h2, fun j c hc => ?_⟩
    have := h3 j c hc
    cases c with
    | bx id => exact fun e cs hl => this e cs (h _ _ hl)
    | pl d => exact Rep.weak this (clsM_mono hown .pl)
  | dead => trivial
theorem imp_has {s : St} {l : List (Nat × SV)} {o' : List (Nat × Ob)} (hl : Has s l) (ho : HasO s o') : Imp P w0 M0 s ⟨s.n, l, o'⟩ := by
  rintro a w ⟨E, hs⟩
  have ho' := ho.out
  have hown : ∀ b, owned E o' b → owned E s.o b := fun b ⟨id, ob, h1, h2⟩ => ⟨id, ob, ho' id ob h1, h2⟩
  refine ⟨E, hs.size, hs.defers, fun t d ht => ?_, fun id ob hid => ?_, fun id ob id' ob' b h1 h2 => hs.wok.disj id ob id' ob' b (ho' _ _ h1) (ho' _ _ h2), hs.wok.below, hs.wok.pins⟩
  · have := hs.slots t d (hl.out t d ht)
    exact ⟨this.1, this.2.fewer ho'⟩
  · have := hs.wok.objs id ob (ho' id ob hid)
    cases ob with
    | arr e xs =>
      obtain ⟨vals, h1, h2, h3⟩ := this
      exact ⟨vals, h1, h2, fun j d hd => ⟨(h3 j d hd).1, (h3 j d hd).2.weak (clsM_mono hown .pl)⟩⟩
    | box e cs =>
      obtain ⟨vals, h1, h2, h3, h4⟩ := this
      exact ⟨vals, h1, h2, h3, fun j sv hj => ⟨(h4 j sv hj).1, (h4 j sv hj).2.1, (h4 j sv hj).2.2.fewer ho'⟩⟩
    | mp ks vs =>
      obtain ⟨es, clock, h1, h2, h3, h4, h5⟩ := this
      exact ⟨es, clock, h1, h2, h3, h4, fun j d hd => (h5 j d hd).weak (clsM_mono hown .pl)⟩
theorem dl_pick {l' : List Oper} {i : Nat} (n : Nat) (l : List (Nat × SV)) (o' : List (Nat × Ob)) (hn : s.n = n) (ho : s.o = o') (hl : Has s l) (h : DrawS P w0 M0 ops Q l' i ⟨n, l, o'⟩) : DrawS P w0 M0 ops Q l' i s := by
  subst hn; subst ho
  have hsub : Sub ⟨s.n, l, s.o⟩ s := ⟨rfl, rfl, hl.out⟩
  cases l' with
  | nil => obtain ⟨s1, h1, h2⟩ := h; exact ⟨s1, h1.trans hsub, h2⟩
  | cons o r => obtain ⟨s1, h1, h2⟩ := h; exact ⟨s1, h1.trans hsub, h2⟩
def loopM (P : Program) (w0 : Fr) (M0 : Nat → Prop) (I : Nat → St → Prop) (m : Nat) (Q : Exit → St → Prop) : Exit → St → Prop
  | .normal, s => ∃ m' s', Imp P w0 M0 s s' ∧ I m' s' ∧ m' < m
  | e, s => Q e s
theorem code_loopM {c : Code} {Q : Exit → St → Prop} (I : Nat → St → Prop) (h0 : ∃ m s', Imp P w0 M0 s s' ∧ I m s') (hr : ∀ m s, I m s → CodeOk P w0 M0 c s (loopM P w0 M0 I m Q)) : CodeOk P w0 M0 (.loop c) s Q := by
  intro a w hs
  obtain ⟨m1, s1, hi, hI⟩ := h0
  have key : ∀ n m s a w, I m s → m < n → Sim P w0 M0 s a w → Code.rounds P c (fun e a' w' => ∃ s', Q e s' ∧ Sim P w0 M0 s' a' w') n a w := by
    intro n
    induction n with
    | zero => intro m s a w _ h; omega
    | succ n ih =>
      intro m s a w hI hlt hs
      rw [rounds_succ]
      refine wp_mono (hr m s hI a w hs) fun e a' w' ⟨s', h1, h2⟩ => ?_
      cases e <;> simp only [Exit.then, loopM] at h1 ⊢ <;>
        first
        | exact ⟨s', h1, h2⟩
        | (obtain ⟨m2, s2, hi2, hI2, hlt2⟩ := h1
           exact ih m2 s2 a' w' hI2 (by omega) (hi2 a' w' h2))
  exact wp_loop_rounds (m1 + 1) (key _ m1 s1 a w hI (by omega) (hi a w hs))
section ops2
variable {ρ : Operand → Option SV} {ob : List (Nat × Ob)} {x y : Operand} {T T' : TypeId} {a b : Int} {c : Cls}
theorem pure_addi (ho : o.op = .binOp .add T x y T') (hx : scal ρ x = some (.int .i64 a)) (hy : scal ρ y = some (.int .i64 b)) (h : -9223372036854775808 ≤ a + b ∧ a + b ≤ 9223372036854775807) : Pure P w0 M0 o ρ ob (.v .pl (int (a + b))) := by
  have := pure_add (P := P) (w0 := w0) (M0 := M0) (ob := ob) ho hx hy
  rwa [wrap64 h.1 h.2] at this
theorem pure_subi (ho : o.op = .binOp .sub T x y T') (hx : scal ρ x = some (.int .i64 a)) (hy : scal ρ y = some (.int .i64 b)) (h : -9223372036854775808 ≤ a - b ∧ a - b ≤ 9223372036854775807) : Pure P w0 M0 o ρ ob (.v .pl (int (a - b))) := by
  have := pure_sub (P := P) (w0 := w0) (M0 := M0) (ob := ob) ho hx hy
  rwa [wrap64 h.1 h.2] at this
theorem pure_muli (ho : o.op = .binOp .mul T x y T') (hx : scal ρ x = some (.int .i64 a)) (hy : scal ρ y = some (.int .i64 b)) (h : -9223372036854775808 ≤ a * b ∧ a * b ≤ 9223372036854775807) : Pure P w0 M0 o ρ ob (.v .pl (int (a * b))) := by
  have := pure_mul (P := P) (w0 := w0) (M0 := M0) (ob := ob) ho hx hy
  rwa [wrap64 h.1 h.2] at this
theorem pure_pick_t {z : Bool} {cx : Operand} (ho : o.op = .pick cx x y) (hc : scal ρ cx = some (.bool z)) (hz : z = true) (hx : ρ x = some d) : Pure P w0 M0 o ρ ob d := by
  subst hz
  exact pure_pick ho hc hx
theorem pure_pick_f {z : Bool} {cx : Operand} (ho : o.op = .pick cx x y) (hc : scal ρ cx = some (.bool z)) (hz : z = false) (hx : ρ y = some d) : Pure P w0 M0 o ρ ob d := by
  subst hz
  exact pure_pick ho hc hx
theorem pure_indexm {α : Type} [Inhabited α] {f : α → AV} {l : List α} {e : TypeId} {k : Nat} {q : IntKind} {i : Int} (ho : o.op = .indexAddr T x y) (hT : P.underlying T = some (.slice e)) (hk : szOf P e = some k)
    (hx : viewAt ρ ob x = some (c, .sl (l.map f))) (hy : scal ρ y = some (.int q i)) (h : 0 ≤ i ∧ i < l.length) (hc : ∀ z, (AV.cells (f z)).length = k) :
    Pure P w0 M0 o ρ ob (.v c (.pc (AV.cells (f (l.getD i.toNat default))) 0)) :=
  pure_index ho hT hk hx hy h.1 (by rw [List.getElem?_map, List.getD_eq_getElem?_getD, List.getElem?_eq_getElem (by omega)]; rfl) (hc _)
end ops2
end
end Go.Am
namespace Go.Am
section
variable {P : Program} {w0 : Fr} {M0 : Nat → Prop} {s : St} {Q : Exit → St → Prop} {y : Code} {id i : Nat} {I : Nat → St → Prop} {m : Nat}
theorem blockQ_same (h : Q .normal s) : blockQ id Q (.exit id) s := by simp only [blockQ, if_true]; exact h
theorem blockQ_other (h : Q (.exit i) s) (hne : Nat.beq i id = false) : blockQ id Q (.exit i) s := by
  have : i ≠ id := by rintro rfl; simp at hne
  simp only [blockQ, this, if_false]; exact h
theorem code_cond_t {x y : Code} {t : Nat} {Q : Exit → St → Prop} (hb : scal s.ev (.tmp t) = some (.bool true)) (h : CodeOk P w0 M0 x s Q) : CodeOk P w0 M0 (.cond (.tmp t) x y) s Q := code_cond hb (fun _ => h) (fun h => by cases h)
theorem code_cond_f {x y : Code} {t : Nat} {Q : Exit → St → Prop} (hb : scal s.ev (.tmp t) = some (.bool false)) (h : CodeOk P w0 M0 y s Q) : CodeOk P w0 M0 (.cond (.tmp t) x y) s Q := code_cond hb (fun h => by cases h) (fun _ => h)
theorem end_ret {t : Nat} {r r' : RV} (h : (s.s.lookup t).bind (retOf s.o) = some r') (hr : r' = r) : endQ t r .ret s := by subst hr; exact h
end
end Go.Am

