/-
  Code on abstract states: sequences, tests, blocks, loops, regions in order; a function's contract out of its body.
-/
import Derived.Test.YtcimmcjnkphagaaAm3
import Derived.LoopN
namespace Go.Am
open Go.RowKit
set_option linter.unusedVariables false

section
variable {P : Program} {w0 : World} {M0 : Nat → Prop}

/-- What the guard of an operation says. -/
def guardOf (ops : Array Oper) (ρ : Operand → Option SV) (o : Oper) : Option Bool :=
  match o.guard with
  | none => some true
  | some (j, want) => match (ops[j]?).bind (·.dst) with
    | none => none
    | some t => match ρ (.tmp t) with
      | some (.v _ (.sc (.bool b))) => some (b == want)
      | some (.v _ (.tup [])) => some false
      | _ => none
theorem SimE.getTmp {E : Env} {s : St} {a : Act} {w : World} (h : SimE P w0 M0 E s a w) {t : Nat} {d : SV} (ht : s.s.lookup t = some d) : a.tmps[t]? = some (a.tmps.getD t undef) := by
  have h1 := (h.slots t d ht).1
  have h2 := h.size
  rw [Array.getD_eq_getD_getElem?, Array.getElem?_eq_getElem (by omega)]; rfl
theorem guard_ok {ops : Array Oper} {E : Env} {s : St} {a : Act} {w : World} (h : SimE P w0 M0 E s a w) {o : Oper} {g : Bool} (hg : guardOf ops s.ev o = some g) :
    Region.wanted o (yielded ops a.tmps) = g := by
  unfold guardOf at hg
  unfold Region.wanted
  split at hg
  · rename_i h0
    simp only [Option.some.injEq] at hg
    simp [h0, hg]
  · rename_i j want h0
    simp only [h0]
    split at hg
    · cases hg
    · rename_i t ht
      split at hg
      · rename_i c b hb
        simp only [Option.some.injEq] at hg
        subst hg
        have h1 := (h.slots t _ hb).2
        simp only [SVok] at h1
        have h2 := h.getTmp hb
        have h3 : a.tmps.getD t undef = .bool b := by generalize a.tmps.getD t undef = z at h1; cases h1; rfl
        rw [h3] at h2
        simp only [yielded, ht, Option.bind_some, h2]
        cases b <;> cases want <;> rfl
      · rename_i c hb
        simp only [Option.some.injEq] at hg
        subst hg
        have h1 := (h.slots t _ hb).2
        simp only [SVok] at h1
        have h2 := h.getTmp hb
        have h3 : ∃ vs, a.tmps.getD t undef = .tuple vs := by
          generalize a.tmps.getD t undef = z at h1; cases h1; exact ⟨_, rfl⟩
        obtain ⟨vs, h3⟩ := h3
        rw [h3] at h2
        simp only [yielded, ht, Option.bind_some, h2]
        cases want <;> rfl
      · cases hg

/-- One state says no more than another. -/
def Imp (P : Program) (w0 : World) (M0 : Nat → Prop) (s s' : St) : Prop := ∀ a w, Sim P w0 M0 s a w → Sim P w0 M0 s' a w
theorem Imp.refl (s : St) : Imp P w0 M0 s s := fun _ _ h => h
theorem Imp.trans {s s' s'' : St} (h : Imp P w0 M0 s s') (h' : Imp P w0 M0 s' s'') : Imp P w0 M0 s s'' := fun a w hs => h' a w (h a w hs)

def OpsOk (P : Program) (w0 : World) (M0 : Nat → Prop) (ops : Array Oper) (l : List Nat) (s : St) (Q : St → Prop) : Prop :=
  ∀ a w, Sim P w0 M0 s a w → wpOps P ops (fun e a' w' => e = .normal ∧ ∃ s', Q s' ∧ Sim P w0 M0 s' a' w') l a w
def CodeOk (P : Program) (w0 : World) (M0 : Nat → Prop) (c : Code) (s : St) (Q : Exit → St → Prop) : Prop :=
  ∀ a w, Sim P w0 M0 s a w → c.wp P (fun e a' w' => ∃ s', Q e s' ∧ Sim P w0 M0 s' a' w') a w

section ops
variable {ops : Array Oper} {l : List Nat} {s s' : St} {Q : St → Prop} {i : Nat} {o : Oper}
theorem ops_nil (h : Q s) : OpsOk P w0 M0 ops [] s Q := fun a w hs => ⟨rfl, s, h, hs⟩
theorem ops_step (hi : ops[i]? = some o) (hg : guardOf ops s.ev o = some true) (h : Step P w0 M0 o s s') (hr : OpsOk P w0 M0 ops l s' Q) : OpsOk P w0 M0 ops (i :: l) s Q := by
  intro a w hs
  obtain ⟨E, hE⟩ := hs
  simp only [wpOps, hi, guard_ok hE hg, if_true]
  exact .inl (Oper.wp_mono (fun a' w' h' => hr a' w' h') (h a w _ ⟨E, hE⟩))
theorem sv_undef {w : World} {E : Env} {ob : List (Nat × Ob)} : SVok P M0 w E ob undef (.v .pl (.tup [])) := .tup [] [] rfl (fun j d hd => by simp at hd)
theorem ops_skip {t : Nat} (hi : ops[i]? = some o) (hg : guardOf ops s.ev o = some false) (ht : o.dst = some t) (hn : t < s.n) (hr : OpsOk P w0 M0 ops l (s.put t (.v .pl (.tup []))) Q) :
    OpsOk P w0 M0 ops (i :: l) s Q := by
  intro a w hs
  obtain ⟨E, hE⟩ := hs
  simp only [wpOps, hi, guard_ok hE hg, Bool.false_eq_true, if_false, ht]
  exact hr _ _ ⟨E, hE.put hn sv_undef⟩
theorem ops_pure {t : Nat} {d : SV} (hi : ops[i]? = some o) (hg : guardOf ops s.ev o = some true) (ht : o.dst = some t) (hn : t < s.n) (h : Pure P w0 M0 o s.ev s.o d)
    (hr : OpsOk P w0 M0 ops l (s.put t d) Q) : OpsOk P w0 M0 ops (i :: l) s Q :=
  ops_step hi hg (step_pure ht hn h) hr
theorem ops_guard {g : Bool} (hg : guardOf ops s.ev o = some g) (h1 : g = true → OpsOk P w0 M0 ops (i :: l) s Q) (h0 : g = false → OpsOk P w0 M0 ops (i :: l) s Q) : OpsOk P w0 M0 ops (i :: l) s Q := by
  cases g
  · exact h0 rfl
  · exact h1 rfl
end ops

section code
variable {c x y : Code} {s s' : St} {Q : Exit → St → Prop}
theorem CodeOk.imp (hi : Imp P w0 M0 s s') (h : CodeOk P w0 M0 c s' Q) : CodeOk P w0 M0 c s Q := fun a w hs => h a w (hi a w hs)
theorem CodeOk.mono {Q' : Exit → St → Prop} (h : CodeOk P w0 M0 c s Q) (hq : ∀ e s', Q e s' → Q' e s') : CodeOk P w0 M0 c s Q' :=
  fun a w hs => wp_mono (h a w hs) fun e a' w' ⟨s', h1, h2⟩ => ⟨s', hq _ _ h1, h2⟩
theorem code_skip (h : Q .normal s) : CodeOk P w0 M0 .skip s Q := fun a w hs => wp_skip ⟨s, h, hs⟩
theorem code_ret (h : Q .ret s) : CodeOk P w0 M0 .ret s Q := fun a w hs => wp_ret ⟨s, h, hs⟩
theorem code_exit {id : Nat} (h : Q (.exit id) s) : CodeOk P w0 M0 (.exit id) s Q := fun a w hs => wp_exit ⟨s, h, hs⟩
/-- What holds behind the first of two pieces. -/
def seqQ (P : Program) (w0 : World) (M0 : Nat → Prop) (y : Code) (Q : Exit → St → Prop) : Exit → St → Prop
  | .normal, s => CodeOk P w0 M0 y s Q
  | e, s => Q e s
theorem code_seq (h : CodeOk P w0 M0 x s (seqQ P w0 M0 y Q)) : CodeOk P w0 M0 (.seq x y) s Q := by
  intro a w hs
  refine wp_seq (wp_mono (h a w hs) fun e a' w' ⟨s', h1, h2⟩ => ?_)
  cases e <;> simp only [Exit.then, seqQ] at h1 ⊢ <;> first | exact h1 _ _ h2 | exact ⟨s', h1, h2⟩
def blockQ (id : Nat) (Q : Exit → St → Prop) : Exit → St → Prop
  | .exit i, s => if i = id then Q .normal s else Q (.exit i) s
  | e, s => Q e s
theorem code_block {id : Nat} (h : CodeOk P w0 M0 c s (blockQ id Q)) : CodeOk P w0 M0 (.block id c) s Q := by
  intro a w hs
  refine wp_block (wp_mono (h a w hs) fun e a' w' ⟨s', h1, h2⟩ => ?_)
  cases e <;> simp only [Exit.inBlock, blockQ] at h1 ⊢ <;> first | exact ⟨s', h1, h2⟩ | (split at h1 <;> simp_all <;> exact ⟨s', h1, h2⟩)
theorem code_cond {t : Nat} {b : Bool} (hb : scal s.ev (.tmp t) = some (.bool b)) (ht : b = true → CodeOk P w0 M0 x s Q) (hf : b = false → CodeOk P w0 M0 y s Q) :
    CodeOk P w0 M0 (.cond (.tmp t) x y) s Q := by
  rintro a w ⟨E, hs⟩
  have hv : a.eval (.tmp t) = .bool b := scal_ok (ρ := s.ev) (x := .tmp t) (ob := s.o) (ev := a.eval) (fun x e hx => hs.ev hx) hb
  cases b
  · exact wp_cond_false hv (hf rfl a w ⟨E, hs⟩)
  · exact wp_cond_true hv (ht rfl a w ⟨E, hs⟩)
theorem code_region {id : Nat} {ops : Array Oper} (l : List Nat) (hl : List.range ops.size = l) (h : OpsOk P w0 M0 ops l s (Q .normal)) : CodeOk P w0 M0 (.region id ops false) s Q := by
  intro a w hs
  subst hl
  refine wp_mono (wp_region (h a w hs)) fun e a' w' ⟨he, s', h1, h2⟩ => ?_
  subst he
  exact ⟨s', h1, h2⟩
/-- A loop: an invariant on abstract states, a measure. -/
def loopQ (P : Program) (w0 : World) (M0 : Nat → Prop) (I : St → Prop) (μ : St → Nat) (m : Nat) (Q : Exit → St → Prop) : Exit → St → Prop
  | .normal, s => ∃ s', Imp P w0 M0 s s' ∧ I s' ∧ μ s' < m
  | e, s => Q e s
theorem code_loop (I : St → Prop) (μ : St → Nat) (h0 : ∃ s', Imp P w0 M0 s s' ∧ I s') (hr : ∀ s, I s → CodeOk P w0 M0 c s (loopQ P w0 M0 I μ (μ s) Q)) : CodeOk P w0 M0 (.loop c) s Q := by
  intro a w hs
  obtain ⟨s1, hi, hI⟩ := h0
  have key : ∀ n s a w, I s → μ s < n → Sim P w0 M0 s a w → Code.rounds P c (fun e a' w' => ∃ s', Q e s' ∧ Sim P w0 M0 s' a' w') n a w := by
    intro n
    induction n with
    | zero => intro s a w _ h; omega
    | succ n ih =>
      intro s a w hI hlt hs
      rw [rounds_succ]
      refine wp_mono (hr s hI a w hs) fun e a' w' ⟨s', h1, h2⟩ => ?_
      cases e <;> simp only [Exit.then, loopQ] at h1 ⊢ <;>
        first
        | exact ⟨s', h1, h2⟩
        | (obtain ⟨s2, hi2, hI2, hlt2⟩ := h1
           exact ih s2 a' w' hI2 (by omega) (hi2 a' w' h2))
  exact wp_loop_rounds (μ s1 + 1) (key _ s1 a w hI (by omega) (hi a w hs))
end code

/-- Slots and objects left out. -/
theorem imp_slots {s s' : St} (hn : s'.n = s.n) (ho : s'.o = s.o) (h : ∀ t d, s'.s.lookup t = some d → s.s.lookup t = some d) : Imp P w0 M0 s s' := by
  rintro a w ⟨E, hs⟩
  obtain ⟨n', sl', o'⟩ := s'
  simp only at hn ho h
  subst hn; subst ho
  exact ⟨E, hs.size, hs.defers, fun t d ht => hs.slots t d (h t d ht), hs.wok⟩
theorem lookup_filter {α : Type} (f : Nat → Bool) (l : List (Nat × α)) (t : Nat) (d : α) (h : (l.filter (fun p => f p.1)).lookup t = some d) : l.lookup t = some d := by
  induction l with
  | nil => simp at h
  | cons p r ih =>
    obtain ⟨u, e⟩ := p
    rw [List.filter_cons] at h
    rw [lookup_cons']
    split at h
    · rw [lookup_cons'] at h
      split at h
      · rename_i h1; rw [if_pos h1]; exact h
      · rename_i h1; rw [if_neg h1]; exact ih h
    · rename_i hf
      have := ih h
      by_cases h1 : t = u
      · exfalso
        subst h1
        -- t is filtered out everywhere
        have : ∀ r : List (Nat × α), (r.filter (fun p => f p.1)).lookup t = none := by
          intro r
          induction r with
          | nil => rfl
          | cons q r ihr =>
            obtain ⟨x, y⟩ := q
            rw [List.filter_cons]
            split
            · rename_i hx
              rw [lookup_cons']
              split
              · rename_i he; subst he; exact absurd hx hf
              · exact ihr
            · exact ihr
        rw [this] at h; cases h
      · rw [if_neg h1]; exact this
def St.keep (s : St) (f : Nat → Bool) : St := { s with s := s.s.filter (fun p => f p.1) }
theorem imp_keep {s : St} (f : Nat → Bool) : Imp P w0 M0 s (s.keep f) := imp_slots rfl rfl (fun t d h => lookup_filter f s.s t d h)

/-- The state at a function's beginning. -/
def St.enter (n : Nat) (c : Cls) (ds : List AV) : St := { n := n, s := ds.zipIdx.map (fun p => (p.2, .v c p.1)), o := [] }
theorem lookup_enter (c : Cls) (ds : List AV) : ∀ (k t : Nat) (d : SV), ((ds.zipIdx k).map (fun p => (p.2, SV.v c p.1))).lookup t = some d → k ≤ t ∧ ∃ e, ds[t - k]? = some e ∧ d = .v c e := by
  induction ds with
  | nil => intro k t d h; simp at h
  | cons x r ih =>
    intro k t d h
    rw [List.zipIdx_cons, List.map_cons, lookup_cons'] at h
    split at h
    · rename_i he
      simp only at he
      subst he
      simp only [Option.some.injEq] at h
      exact ⟨Nat.le_refl _, x, by simp, h.symm⟩
    · obtain ⟨h1, e, h2, h3⟩ := ih (k + 1) t d h
      refine ⟨by omega, e, ?_, h3⟩
      have : t - k = (t - (k + 1)) + 1 := by omega
      rw [this, List.getElem?_cons_succ]; exact h2

/-- A result slot at the end. -/
def retOf (ob : List (Nat × Ob)) : SV → Option RV
  | .v .pl (.sc (.slice none 0 0)) => some (.p (.sl []))
  | .v .pl d => some (.p d)
  | .v _ (.sc u) => some (.p (.sc u))
  | .own id => match ob.lookup id with
    | some (.arr e xs) => some (.fresh e xs)
    | _ => none
  | .omap id => match ob.lookup id with
    | some (.mp ks vs) => some (.p (.mp ks vs))
    | _ => none
  | _ => none
theorem retOf_ok {E : Env} {ob : List (Nat × Ob)} {w : World} {v : Value} {s : SV} {r : RV} (hw : WOk P w0 M0 E ob w) (h : SVok P M0 w E ob v s) (hr : retOf ob s = some r) : RVok P w M0 w0.heap.size v r := by
  unfold retOf at hr
  split at hr
  · simp only [Option.some.injEq] at hr
    subst hr
    cases h
    exact .sl none 0 0 [] 0 (fun _ => undef) rfl (Nat.le_refl _) (by simp) (fun h => absurd h (by omega)) (fun j d hd => by simp [flat] at hd) (fun j d hd => by simp [flat] at hd)
  · simp only [Option.some.injEq] at hr
    subst hr
    exact Rep.weak h (fun b hb => .inl hb)
  · simp only [Option.some.injEq] at hr
    subst hr
    cases h
    exact .sc _ ‹_›
  · rename_i id
    split at hr
    · rename_i e xs hl
      simp only [Option.some.injEq] at hr
      subst hr
      rw [h e xs hl]
      obtain ⟨vals, h1, h2, h3⟩ := hw.objs id _ hl
      refine ⟨vals, h1, h2, fun j d hd => ⟨(h3 j d hd).1, (h3 j d hd).2.weak fun b hb => ?_⟩⟩
      rcases hb with hb | hb
      · exact .inl hb
      · exact .inr ⟨id, _, hl, hb⟩
    · cases hr
  · rename_i id
    split at hr
    · rename_i ks vs hl
      simp only [Option.some.injEq] at hr
      subst hr
      rw [h ks vs hl]
      have hlt := ((hw.objs id _ hl).own_range rfl).2
      obtain ⟨es, clock, h1, h2, h3, h4, h5⟩ := hw.objs id _ hl
      exact .mp _ es clock ks vs h2.2 hlt h1 h3 h4 fun j d hd => (h5 j d hd).weak fun b hb => .inl hb
    · cases hr
  · cases hr

def Fn1 (P : Program) (f : FuncId) (n t : Nat) (c : Code) : Prop := ∃ fn, P.funcs[f]? = some fn ∧ fn.body = some c ∧ fn.ntmps = n ∧ fn.results = #[.tmp t] ∧ (fn.name == "runtime.NumGoroutine") = false
theorem Fn1.callable {f n t : Nat} {c : Code} (h : Fn1 P f n t c) : Callable P f := by
  obtain ⟨fn, h1, h2, _, _, h5⟩ := h
  exact ⟨fn, h1, h5, by rw [h2]; rfl⟩
/-- What is asked at the end of a function of one result. -/
def endQ (t : Nat) (r : RV) : Exit → St → Prop
  | .normal, s | .ret, s => (s.s.lookup t).bind (retOf s.o) = some r
  | _, _ => False
theorem calls_of_code {f n t : Nat} {c : Code} (hf : Fn1 P f n t c) {ds : List AV} {r : RV} {cl : Cls} (hn : ds.length ≤ n) (vs : List Value) (hv : vs.length = ds.length)
    (hr : ∀ (j : Nat) d, ds[j]? = some d → Rep w0 (clsM M0 (fun _ => False) cl) (vs.getD j undef) d)
    (h : CodeOk P w0 M0 c (St.enter n cl ds) (endQ t r)) :
    Calls P f vs.toArray w0 fun e w' => ∃ v, e = .returned v ∧ Below w0.heap.size w0 w' ∧ RVok P w' M0 w0.heap.size v r := by
  obtain ⟨fn, h1, h2, h3, h4, h5⟩ := hf
  have hE : SimE P w0 M0 ⟨fun _ => undef, fun _ => 0⟩ (St.enter n cl ds) { tmps := vs.toArray ++ Array.replicate (fn.ntmps - vs.toArray.size) undef, defers := [] } w0 := by
    refine ⟨by simp [St.enter, h3]; omega, rfl, fun t d ht => ?_, fun id ob ho => by simp [St.enter] at ho, fun id ob id' ob' b ho => by simp [St.enter] at ho, .refl _ _⟩
    obtain ⟨_, e, he, rfl⟩ := lookup_enter cl ds 0 t d ht
    have hlt : t < ds.length := by simpa using (List.getElem?_eq_some_iff.1 he).1
    refine ⟨by simp [St.enter]; omega, ?_⟩
    have := hr t e (by simpa using he)
    simp only [SVok]
    have hown : clsM M0 (owned ⟨fun _ => undef, fun _ => 0⟩ (St.enter n cl ds).o) cl = clsM M0 (fun _ => False) cl := by
      have : owned ⟨fun _ => undef, fun _ => 0⟩ (St.enter n cl ds).o = fun _ => False := by
        funext b; apply propext; constructor
        · rintro ⟨id, ob, h, _⟩; simp [St.enter] at h
        · intro h; exact h.elim
      rw [this]
    rw [hown]
    have hget : (vs.toArray ++ Array.replicate (fn.ntmps - vs.toArray.size) undef).getD t undef = vs.getD t undef := by
      rw [Array.getD_eq_getD_getElem?, Array.getElem?_append_left (by simp; omega), List.getD_eq_getElem?_getD]; simp
    rw [hget]; exact this
  refine calls_of_wp h1 h2 (wp_mono (h _ _ ⟨_, hE⟩) fun e a' w' ⟨s', hq, E, hs⟩ => ?_)
  have fin : (s'.s.lookup t).bind (retOf s'.o) = some r → a'.defers = [] ∧ ∃ v, (results fn a'.tmps).run P w' = .ok v w' ∧ ∃ v_1, Ending.returned v = Ending.returned v_1 ∧ Below w0.heap.size w0 w' ∧ RVok P w' M0 w0.heap.size v_1 r := by
    intro hq
    cases hl : s'.s.lookup t with
    | none => rw [hl] at hq; cases hq
    | some sv =>
      rw [hl] at hq
      refine ⟨hs.defers, a'.tmps.getD t undef, by simp [results, h4], _, rfl, hs.wok.below, retOf_ok hs.wok (hs.slots t sv hl).2 hq⟩
  cases e with
  | normal => exact fin hq
  | ret => exact fin hq
  | exit _ => exact hq.elim
  | goto _ => exact hq.elim
  | panic _ => exact hq.elim
  | outgrown => exact hq.elim
/-- A contract in new memory. -/
theorem callF_of_code {f n t : Nat} {c : Code} (hf : Fn1 P f n t c) {ds : List AV} {r : RV} (hn : ds.length ≤ n)
    (h : ∀ (w0 : World) (M0 : Nat → Prop), (∀ b, M0 b → b < w0.heap.size) → CodeOk P w0 M0 c (St.enter n .mx ds) (endQ t r)) : CallF P f ds r :=
  ⟨hf.callable, fun w vs hv hr => calls_of_code (cl := .mx) hf hn vs hv (fun j d hd => hr j d hd) (h w (fun b => b < w.heap.size) (fun b hb => hb))⟩
theorem callN_of_code {f n t : Nat} {c : Code} (hf : Fn1 P f n t c) {ds : List AV} {r : RV} (hn : ds.length ≤ n)
    (h : ∀ (w0 : World) (M0 : Nat → Prop), (∀ b, M0 b → b < w0.heap.size) → CodeOk P w0 M0 c (St.enter n .pl ds) (endQ t r)) : CallN P f ds r :=
  ⟨hf.callable, fun w M vs hM hv hr => calls_of_code (cl := .pl) hf hn vs hv (fun j d hd => (hr j d hd).weak (fun b hb => Or.elim hb id (fun h => False.elim h))) (h w M hM)⟩
end
end Go.Am
