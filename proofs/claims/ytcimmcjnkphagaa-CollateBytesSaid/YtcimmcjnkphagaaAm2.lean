/-
  One operation on an abstract state: what it yields, for operations that write nothing that was there.
-/
import Derived.Test.YtcimmcjnkphagaaAm1
namespace Go.Am
open Go.RowKit
set_option linter.unusedVariables false

def ins {α : Type} (t : Nat) (d : α) : List (Nat × α) → List (Nat × α)
  | [] => [(t, d)]
  | (u, e) :: r => if t < u then (t, d) :: (u, e) :: r else if t = u then (t, d) :: r else (u, e) :: ins t d r
theorem lookup_cons' {α : Type} (u t : Nat) (d : α) (r : List (Nat × α)) : List.lookup u ((t, d) :: r) = if u = t then some d else r.lookup u := by
  by_cases h : u = t
  · subst h; simp [List.lookup]
  · have : (u == t) = false := by simpa using h
    simp [List.lookup, this, h]
theorem lookup_ins {α : Type} (t u : Nat) (d : α) (l : List (Nat × α)) : (ins t d l).lookup u = if u = t then some d else l.lookup u := by
  induction l with
  | nil => simp [ins, lookup_cons']
  | cons p r ih =>
    obtain ⟨x, e⟩ := p
    unfold ins
    split
    · rw [lookup_cons', lookup_cons']
    · split
      · rename_i h2
        subst h2
        rw [lookup_cons', lookup_cons']
        split <;> simp_all
      · rename_i h2
        rw [lookup_cons', ih, lookup_cons']
        by_cases ha : u = x
        · subst ha; simp [Ne.symm h2]
        · simp [ha]

def St.put (s : St) (t : Nat) (d : SV) : St := { s with s := ins t d s.s }
def St.setO (s : St) (id : Nat) (ob : Ob) : St := { s with o := ins id ob s.o }

section
variable {P : Program} {w0 : World} {M0 : Nat → Prop}

theorem SimE.put {E : Env} {s : St} {a : Act} {w : World} (h : SimE P w0 M0 E s a w) {t : Nat} (ht : t < s.n) {v : Value} {d : SV} (hv : SVok P M0 w E s.o v d) :
    SimE P w0 M0 E (s.put t d) (a.put (some t) v) w := by
  refine ⟨by simpa [Act.put, St.put] using h.size, h.defers, fun u e he => ?_, h.wok⟩
  simp only [St.put] at he ⊢
  rw [lookup_ins] at he
  by_cases hu : u = t
  · subst hu
    simp only [if_true, Option.some.injEq] at he
    subst he
    refine ⟨ht, ?_⟩
    have : (a.put (some u) v).tmps.getD u undef = v := by
      have := h.size
      simp [Act.put, Array.getD_eq_getD_getElem?, this, ht]
    rw [this]; exact hv
  · rw [if_neg hu] at he
    have := h.slots u e he
    refine ⟨this.1, ?_⟩
    have hq : (a.put (some t) v).tmps.getD u undef = a.tmps.getD u undef := by
      simp [Act.put, Array.getD_eq_getD_getElem?, Ne.symm hu]
    rw [hq]; exact this.2

def constAV : Value → Option AV
  | .agg cs => bif cs.toList.all Value.oneCell' then some (.agg (cs.toList.map .sc)) else none
  | .tuple _ => none
  | v => some (.sc v)
def St.ev (s : St) : Operand → Option SV
  | .tmp t => s.s.lookup t
  | .const v => (constAV v).map (.v .pl)
  | .func f => some (.v .pl (.clo f []))
  | .global _ => none
theorem constAV_ok {w : World} {M : Nat → Prop} {v : Value} {d : AV} (h : constAV v = some d) : Rep w M v d := by
  unfold constAV at h
  split at h
  · rename_i cs
    cases hc : cs.toList.all Value.oneCell'
    · simp [hc] at h
    · simp only [hc, cond_true, Option.some.injEq] at h
      subst h
      rw [List.all_eq_true] at hc
      have := Rep.agg (w := w) (M := M) cs.toList (cs.toList.map .sc) (by simp) (fun j d hd => by
          simp at hd; obtain ⟨x, _, rfl⟩ := hd; rfl) (fun j d hd => by
          rw [List.getElem?_map] at hd
          cases hx : cs.toList[j]? with
          | none => simp [hx] at hd
          | some x =>
            rw [hx] at hd
            simp only [Option.map_some, Option.some.injEq] at hd
            subst hd
            rw [List.getD_eq_getElem?_getD, hx]
            exact .sc x (hc x (List.mem_of_getElem? hx)))
      simpa using this
  · cases h
  · simp only [Option.some.injEq] at h
    subst h
    exact .sc v (by cases v <;> simp_all [Value.oneCell'])
theorem SimE.ev {E : Env} {s : St} {a : Act} {w : World} (h : SimE P w0 M0 E s a w) {x : Operand} {d : SV} (hx : s.ev x = some d) : SVok P M0 w E s.o (a.eval x) d := by
  cases x with
  | tmp t => exact (h.slots t d hx).2
  | const v =>
    simp only [St.ev, Option.map_eq_some_iff] at hx
    obtain ⟨e, he, rfl⟩ := hx
    exact constAV_ok he
  | func f =>
    simp only [St.ev, Option.some.injEq] at hx
    subst hx
    exact .clo f [] [] rfl (fun j d hd => by simp at hd)
  | global g => cases hx

/-- What an operation that writes nothing old yields. -/
def Yield (P : Program) (ev : Operand → Value) (o : Oper) (w : World) (R : Value → World → Prop) : Prop :=
  match (execOp ev o).run P w with
  | .ok (.value v) w' => R v w'
  | .ok (.enter f args) w' => w' = w ∧ Calls P f args w (fun e w'' => ∃ v, e = .returned v ∧ R v w'')
  | _ => False
def Pure (P : Program) (w0 : World) (M0 : Nat → Prop) (o : Oper) (ρ : Operand → Option SV) (ob : List (Nat × Ob)) (d : SV) : Prop :=
  ∀ (E : Env) (w : World) (ev : Operand → Value), WOk P w0 M0 E ob w → (∀ x e, ρ x = some e → SVok P M0 w E ob (ev x) e) →
    Yield P ev o w (fun v w' => Below w.heap.size w w' ∧ SVok P M0 w' E ob v d)
/-- An operation takes one abstract state to another. -/
def Step (P : Program) (w0 : World) (M0 : Nat → Prop) (o : Oper) (s s' : St) : Prop :=
  ∀ a w Q, Sim P w0 M0 s a w → o.wp P a w (fun a' w' => Sim P w0 M0 s' a' w') Q
theorem step_pure {o : Oper} {s : St} {t : Nat} {d : SV} (hd : o.dst = some t) (ht : t < s.n) (h : Pure P w0 M0 o s.ev s.o d) : Step P w0 M0 o s (s.put t d) := by
  rintro a w Q ⟨E, hs⟩
  have hy := h E w a.eval hs.wok (fun x e hx => hs.ev hx)
  unfold Yield at hy
  unfold Oper.wp
  generalize (execOp a.eval o).run P w = r at *
  match r, hy with
  | .ok (.value v) w', hy =>
    simp only [Oper.upon, hd]
    exact ⟨E, (hs.grow hy.1).put ht hy.2⟩
  | .ok (.enter f args) w', hy =>
    obtain ⟨rfl, hc⟩ := hy
    simp only [Oper.upon]
    refine hc.mono fun e w'' ⟨v, he, hb, hv⟩ => ?_
    subst he
    rw [hd]
    exact ⟨E, (hs.grow hb).put ht hv⟩

theorem pure_value {o : Oper} {ρ : Operand → Option SV} {ob : List (Nat × Ob)} {d : SV}
    (h : ∀ (E : Env) (w : World) (ev : Operand → Value), WOk P w0 M0 E ob w → (∀ x e, ρ x = some e → SVok P M0 w E ob (ev x) e) →
      ∃ v w', (execOp ev o).run P w = .ok (.value v) w' ∧ Below w.heap.size w w' ∧ SVok P M0 w' E ob v d) : Pure P w0 M0 o ρ ob d := by
  intro E w ev hw hx
  obtain ⟨v, w', h1, h2⟩ := h E w ev hw hx
  unfold Yield
  rw [h1]
  exact h2

section ops
variable {o : Oper} {ρ : Operand → Option SV} {ob : List (Nat × Ob)} {d : SV} {x y : Operand}
theorem pure_move (ho : o.op = .move x) (hx : ρ x = some d) : Pure P w0 M0 o ρ ob d :=
  pure_value fun E w ev hw h => ⟨ev x, w, by simp [execOp, ho], .refl _ _, h x d hx⟩
theorem pure_assign (ho : o.op = .assign x) (hx : ρ x = some d) : Pure P w0 M0 o ρ ob d :=
  pure_value fun E w ev hw h => ⟨ev x, w, by simp [execOp, ho], .refl _ _, h x d hx⟩

/-- The very value of a scalar. -/
def SV.val : SV → Option Value
  | .v _ (.sc u) => some u
  | _ => none
theorem SVok.val {w : World} {E : Env} {o : List (Nat × Ob)} {v u : Value} {d : SV} (h : SVok P M0 w E o v d) (hd : d.val = some u) : v = u := by
  cases d with
  | v c d =>
    cases d with
    | sc z =>
      simp only [SV.val, Option.some.injEq] at hd
      subst hd
      cases h; rfl
    | _ => cases hd
  | _ => cases hd
def scal (ρ : Operand → Option SV) (x : Operand) : Option Value := (ρ x).bind SV.val
theorem scal_ok {E : Env} {w : World} {ev : Operand → Value} (h : ∀ x e, ρ x = some e → SVok P M0 w E ob (ev x) e) {u : Value} (hx : scal ρ x = some u) : ev x = u := by
  unfold scal at hx
  cases hr : ρ x with
  | none => rw [hr] at hx; cases hx
  | some e => rw [hr] at hx; exact (h x e hr).val hx
theorem sv_sc {w : World} {E : Env} {o : List (Nat × Ob)} {v : Value} {c : Cls} (h : v.oneCell' = true) : SVok P M0 w E o v (.v c (.sc v)) := .sc v h
/-- Whatever an operation computes of scalars alone. -/
theorem pure_scal {u : Value} (hu : u.oneCell' = true) (h : ∀ (w : World) (ev : Operand → Value), (∀ x v, scal ρ x = some v → ev x = v) → (execOp ev o).run P w = .ok (.value u) w) :
    Pure P w0 M0 o ρ ob (.v .pl (.sc u)) :=
  pure_value fun E w ev hw hx => ⟨u, w, h w ev (fun x v hv => scal_ok hx hv), .refl _ _, sv_sc hu⟩
section
variable {op : BinOp} {T T' : TypeId} {k : IntKind} {a b : Int}
theorem pure_bin {u : Value} {va vb : Value} (ho : o.op = .binOp op T x y T') (hx : scal ρ x = some va) (hy : scal ρ y = some vb) (hu : u.oneCell' = true)
    (hg : eqGuard op T x y va vb = pure ()) (hb : ∀ w, (binOp op T va vb).run P w = .ok u w) : Pure P w0 M0 o ρ ob (.v .pl (.sc u)) :=
  pure_scal hu fun w ev h => by simp [execOp, ho, h x va hx, h y vb hy, hg, hb]
theorem pure_add (ho : o.op = .binOp .add T x y T') (hx : scal ρ x = some (.int k a)) (hy : scal ρ y = some (.int k b)) : Pure P w0 M0 o ρ ob (.v .pl (.sc (.int k (k.wrap (a + b))))) :=
  pure_bin ho hx hy rfl (by simp [go_sem]) (fun w => by simp [go_sem])
theorem pure_sub (ho : o.op = .binOp .sub T x y T') (hx : scal ρ x = some (.int k a)) (hy : scal ρ y = some (.int k b)) : Pure P w0 M0 o ρ ob (.v .pl (.sc (.int k (k.wrap (a - b))))) :=
  pure_bin ho hx hy rfl (by simp [go_sem]) (fun w => by simp [go_sem])
theorem pure_mul (ho : o.op = .binOp .mul T x y T') (hx : scal ρ x = some (.int k a)) (hy : scal ρ y = some (.int k b)) : Pure P w0 M0 o ρ ob (.v .pl (.sc (.int k (k.wrap (a * b))))) :=
  pure_bin ho hx hy rfl (by simp [go_sem]) (fun w => by simp [go_sem])
theorem pure_quo (ho : o.op = .binOp .quo T x y T') (hx : scal ρ x = some (.int k a)) (hy : scal ρ y = some (.int k b)) (hb : b ≠ 0) : Pure P w0 M0 o ρ ob (.v .pl (.sc (.int k (k.wrap (a.tdiv b))))) :=
  pure_bin ho hx hy rfl (by simp [go_sem]) (fun w => by simp [go_sem, Op.intDiv, hb])
theorem pure_rem (ho : o.op = .binOp .rem T x y T') (hx : scal ρ x = some (.int k a)) (hy : scal ρ y = some (.int k b)) (hb : b ≠ 0) : Pure P w0 M0 o ρ ob (.v .pl (.sc (.int k (a.tmod b)))) :=
  pure_bin ho hx hy rfl (by simp [go_sem]) (fun w => by simp [go_sem, Op.intDiv, hb])
theorem pure_lss (ho : o.op = .binOp .lss T x y T') (hx : scal ρ x = some (.int k a)) (hy : scal ρ y = some (.int k b)) : Pure P w0 M0 o ρ ob (.v .pl (.sc (.bool (decide (a < b))))) :=
  pure_bin ho hx hy rfl (by simp [go_sem]) (fun w => by simp [go_sem])
theorem pure_leq (ho : o.op = .binOp .leq T x y T') (hx : scal ρ x = some (.int k a)) (hy : scal ρ y = some (.int k b)) : Pure P w0 M0 o ρ ob (.v .pl (.sc (.bool (decide (a ≤ b))))) :=
  pure_bin ho hx hy rfl (by simp [go_sem]) (fun w => by simp [go_sem])
theorem pure_gtr (ho : o.op = .binOp .gtr T x y T') (hx : scal ρ x = some (.int k a)) (hy : scal ρ y = some (.int k b)) : Pure P w0 M0 o ρ ob (.v .pl (.sc (.bool (decide (b < a))))) :=
  pure_bin ho hx hy rfl (by simp [go_sem]) (fun w => by simp [go_sem])
theorem pure_geq (ho : o.op = .binOp .geq T x y T') (hx : scal ρ x = some (.int k a)) (hy : scal ρ y = some (.int k b)) : Pure P w0 M0 o ρ ob (.v .pl (.sc (.bool (decide (b ≤ a))))) :=
  pure_bin ho hx hy rfl (by simp [go_sem]) (fun w => by simp [go_sem])
theorem pure_eql (ho : o.op = .binOp .eql T x y T') (hx : scal ρ x = some (.int k a)) (hy : scal ρ y = some (.int k b)) : Pure P w0 M0 o ρ ob (.v .pl (.sc (.bool (decide (a = b))))) :=
  pure_bin ho hx hy rfl (by simp [go_sem]) (fun w => by simp only [binOp_eql, Sem.run_pure]; congr)
theorem pure_neq (ho : o.op = .binOp .neq T x y T') (hx : scal ρ x = some (.int k a)) (hy : scal ρ y = some (.int k b)) : Pure P w0 M0 o ρ ob (.v .pl (.sc (.bool (!decide (a = b))))) :=
  pure_bin ho hx hy rfl (by simp [go_sem]) (fun w => by simp only [binOp_neq, Sem.run_pure]; congr)
theorem pure_pick {c : Operand} {z : Bool} (ho : o.op = .pick c x y) (hc : scal ρ c = some (.bool z)) (hx : ρ (bif z then x else y) = some d) : Pure P w0 M0 o ρ ob d :=
  pure_value fun E w ev hw h => ⟨ev (bif z then x else y), w, by cases z <;> simp [execOp, ho, scal_ok h hc, asBool], .refl _ _, h _ d hx⟩
end
end ops
end
end Go.Am
