/-
  Functions of two results, of none; small lemmas for walks.
-/
import Derived.Test.YtcimmcjnkphagaaAm12
namespace Go.Am
open Go.RowKit
set_option linter.unusedVariables false

theorem mget {α : Type} [Inhabited α] {f : α → AV} {l : List α} {i : Nat} (h : i < l.length) : (l.map f)[i]? = some (f (l.getD i default)) := by
  rw [List.getElem?_map, List.getD_eq_getElem?_getD, List.getElem?_eq_getElem h]; rfl
theorem one_len {k : Nat} {x : AV} (h : (AV.cells x).length = k) : ∀ y ∈ [x], (AV.cells y).length = k := by
  intro y hy; simp at hy; subst hy; exact h
theorem map_len {α : Type} {f : α → AV} {l : List α} {k : Nat} (h : ∀ z, (AV.cells (f z)).length = k) : ∀ y ∈ l.map f, (AV.cells y).length = k := by
  intro y hy
  obtain ⟨z, _, rfl⟩ := List.mem_map.1 hy
  exact h z
theorem flat_leaf {α : Type} {f : α → AV} {l : List α} (h : ∀ z, AV.cells (f z) = [f z]) : flat (l.map f) = l.map f := by
  induction l with
  | nil => rfl
  | cons x r ih => simp only [List.map_cons, flat, List.flatMap_cons] at ih ⊢; rw [ih, h]; rfl
section
variable {P : Program} {w0 : World} {M0 : Nat → Prop}
theorem src_plm {α : Type} {f : α → AV} {l : List α} {s : St} {y : Operand} {k : Nat} (hy : viewAt s.ev s.o y = some (.pl, .sl (l.map f))) (hk : ∀ z, (AV.cells (f z)).length = k) : Src P w0 M0 s y k (l.map f) := src_pl hy (map_len hk)
theorem src_scm {α : Type} {f : α → AV} {l : List α} {s : St} {y : Operand} {c : Cls} (hy : viewAt s.ev s.o y = some (c, .sl (l.map f))) (hk : ∀ z, ∃ v, f z = .sc v) : Src P w0 M0 s y 1 (l.map f) :=
  src_sc hy (map_len fun z => by obtain ⟨v, h⟩ := hk z; rw [h]; rfl) (fun d hd => by
    rw [flat_leaf (fun z => by obtain ⟨v, h⟩ := hk z; rw [h]; rfl)] at hd
    obtain ⟨z, _, rfl⟩ := List.mem_map.1 hd
    exact hk z)

def Fn2 (P : Program) (f : FuncId) (n t u : Nat) (c : Code) : Prop := ∃ fn, P.funcs[f]? = some fn ∧ fn.body = some c ∧ fn.ntmps = n ∧ fn.results = #[.tmp t, .tmp u] ∧ (fn.name == "runtime.NumGoroutine") = false
theorem Fn2.callable {f n t u : Nat} {c : Code} (h : Fn2 P f n t u c) : Callable P f := by
  obtain ⟨fn, h1, h2, _, _, h5⟩ := h
  exact ⟨fn, h1, h5, by rw [h2]; rfl⟩
def endQ2 (t u : Nat) (r r' : AV) : Exit → St → Prop
  | .normal, s | .ret, s => (∃ q, (s.s.lookup t).bind (retOf s.o) = some q ∧ q.data = r) ∧ (∃ q, (s.s.lookup u).bind (retOf s.o) = some q ∧ q.data = r')
  | _, _ => False
theorem calls_of_code2 {f n t u : Nat} {c : Code} (hf : Fn2 P f n t u c) {ds : List AV} {r r' : AV} {cl : Cls} (hM0 : ∀ b, M0 b → b < w0.heap.size) (hn : ds.length ≤ n) (vs : List Value) (hv : vs.length = ds.length)
    (hr : ∀ (j : Nat) d, ds[j]? = some d → Rep w0 (clsM M0 (fun _ => False) cl) (vs.getD j undef) d)
    (h : CodeOk P w0 M0 c (St.enter n cl ds) (endQ2 t u r r')) :
    Calls P f vs.toArray w0 fun e w' => ∃ v, e = .returned v ∧ Below w0.heap.size w0 w' ∧ RVok P w' M0 w0.heap.size v (.p (.tup [r, r'])) := by
  obtain ⟨fn, h1, h2, h3, h4, h5⟩ := hf
  have hE : SimE P w0 M0 ⟨fun _ => undef, fun _ => 0⟩ (St.enter n cl ds) { tmps := vs.toArray ++ Array.replicate (fn.ntmps - vs.toArray.size) undef, defers := [] } w0 := by
    refine ⟨by simp [St.enter, h3]; omega, rfl, fun t d ht => ?_, ⟨fun id ob ho => by simp [St.enter] at ho, fun id ob id' ob' b ho => by simp [St.enter] at ho, .refl _ _⟩⟩
    obtain ⟨_, e, he, rfl⟩ := lookup_enter cl ds 0 t d ht
    have hlt : t < ds.length := by simpa using (List.getElem?_eq_some_iff.1 he).1
    refine ⟨by simp [St.enter]; omega, ?_⟩
    have := hr t e (by simpa using he)
    simp only [SVok]
    have hown : owned ⟨fun _ => undef, fun _ => 0⟩ (St.enter n cl ds).o = fun _ => False := by
      funext b; apply propext; constructor
      · rintro ⟨id, ob, h, _⟩; simp [St.enter] at h
      · intro h; exact h.elim
    rw [hown]
    have hget : (vs.toArray ++ Array.replicate (fn.ntmps - vs.toArray.size) undef).getD t undef = vs.getD t undef := by
      rw [Array.getD_eq_getD_getElem?, Array.getElem?_append_left (by simp; omega), List.getD_eq_getElem?_getD]; simp
    rw [hget]; exact this
  refine calls_of_wp h1 h2 (wp_mono (h _ _ ⟨_, hE⟩) fun e a' w' ⟨s', hq, E, hs⟩ => ?_)
  have fin : ((∃ q, (s'.s.lookup t).bind (retOf s'.o) = some q ∧ q.data = r) ∧ (∃ q, (s'.s.lookup u).bind (retOf s'.o) = some q ∧ q.data = r')) → a'.defers = [] ∧ ∃ v, (results fn a'.tmps).run P w' = .ok v w' ∧ ∃ v_1, Ending.returned v = Ending.returned v_1 ∧ Below w0.heap.size w0 w' ∧ RVok P w' M0 w0.heap.size v_1 (.p (.tup [r, r'])) := by
    rintro ⟨⟨q1, hq1, hd1⟩, ⟨q2, hq2, hd2⟩⟩
    have one : ∀ x q, (s'.s.lookup x).bind (retOf s'.o) = some q → Rep w' M0 (a'.tmps.getD x undef) q.data := by
      intro x q hx
      cases hl : s'.s.lookup x with
      | none => rw [hl] at hx; cases hx
      | some sv =>
        rw [hl] at hx
        exact (retOf_ok hs.wok (hs.slots x sv hl).2 hx).rep hM0
    refine ⟨hs.defers, .tuple #[a'.tmps.getD t undef, a'.tmps.getD u undef], by simp [results, h4], _, rfl, hs.wok.below, ?_⟩
    have r1 := one t q1 hq1
    have r2 := one u q2 hq2
    rw [hd1] at r1; rw [hd2] at r2
    exact .tup [a'.tmps.getD t undef, a'.tmps.getD u undef] [r, r'] rfl (fun j d hd => by
      match j, hd with
      | 0, hd => simp at hd; subst hd; exact r1
      | 1, hd => simp at hd; subst hd; exact r2
      | j + 2, hd => simp at hd)
  cases e with
  | normal => exact fin hq
  | ret => exact fin hq
  | exit _ => exact hq.elim
  | goto _ => exact hq.elim
  | panic _ => exact hq.elim
  | outgrown => exact hq.elim
theorem callF_of_code2 {f n t u : Nat} {c : Code} (hf : Fn2 P f n t u c) {ds : List AV} {r r' : AV} (hn : ds.length ≤ n)
    (h : ∀ (w0 : World) (M0 : Nat → Prop), (∀ b, M0 b → b < w0.heap.size) → CodeOk P w0 M0 c (St.enter n .mx ds) (endQ2 t u r r')) : CallF P f ds (.p (.tup [r, r'])) :=
  ⟨hf.callable, fun w vs hv hr => calls_of_code2 (cl := .mx) hf (fun b hb => hb) hn vs hv (fun j d hd => hr j d hd) (h w (fun b => b < w.heap.size) (fun b hb => hb))⟩
theorem end2_ret {t u : Nat} {r r' : AV} {s : St} {q q' : RV} (h : (s.s.lookup t).bind (retOf s.o) = some q) (h' : (s.s.lookup u).bind (retOf s.o) = some q') (e : q.data = r ∧ q'.data = r') : endQ2 t u r r' .ret s := ⟨⟨q, h, e.1⟩, ⟨q', h', e.2⟩⟩
theorem end2_normal {t u : Nat} {r r' : AV} {s : St} {q q' : RV} (h : (s.s.lookup t).bind (retOf s.o) = some q) (h' : (s.s.lookup u).bind (retOf s.o) = some q') (e : q.data = r ∧ q'.data = r') : endQ2 t u r r' .normal s := ⟨⟨q, h, e.1⟩, ⟨q', h', e.2⟩⟩
/-- A result in new memory that may lie in what came in is one all the same, where nothing comes in. -/
theorem CallF.weaken {f : FuncId} {ds : List AV} {e : TypeId} {xs : List AV} (h : CallF P f ds (.fresh e xs)) : CallF P f ds (.p (.sl xs)) :=
  ⟨h.1, fun w vs hv hr => (h.2 w vs hv hr).mono fun e w' ⟨v, he, hb, hrv⟩ => ⟨v, he, hb, hrv.rep (fun b hb => hb)⟩⟩
/-- A call whose result may lie in what came in, from plain arguments. -/
theorem pure_callN {o : Oper} {ρ : Operand → Option SV} {ob : List (Nat × Ob)} {cx : Operand} {args : Array Operand} {ats : Array TypeId} {c c' : Cls} {f : FuncId} {caps ds : List AV} {r : RV}
    (ho : o.op = .call { callee := .value cx, args := args, argTypes := ats }) (hc : ρ cx = some (.v c' (.clo f caps))) (ha : capsView ρ ob args.toList = some (c, ds)) (hcap : caps = []) (h : CallN P f ds r)
    (hM0 : ∀ b, M0 b → b < w0.heap.size) : Pure P w0 M0 o ρ ob (.v c r.data) := by
  subst hcap
  intro E w ev hw hx
  have hcv := hx cx _ hc
  simp only [SVok] at hcv
  generalize hq : ev cx = q at hcv
  cases hcv with
  | clo _ vs _ hn hr =>
    obtain ⟨g1, g2⟩ := capsView_ok hw hx _ c ds ha
    have hvs : vs = [] := List.eq_nil_of_length_eq_zero (by simpa using hn)
    subst hvs
    unfold Yield
    rw [run_call ho hq h.1]
    refine ⟨rfl, ?_⟩
    have hMlt : ∀ b, clsM M0 (owned E ob) c b → b < w.heap.size := by
      intro b hb
      cases c with
      | pl =>
        rcases hb with hb | hb
        · have := hM0 b hb; have := hw.below.size; omega
        · exact (hw.owned_range hb).2
      | mx => exact (hw.owned_range hb).2
      | vw => exact hb.elim
    have hall := h.2 w (clsM M0 (owned E ob) c) (args.toList.map ev) hMlt (by simpa using g1) g2
    have e1 : (args.toList.map ev).toArray = args.map ev ++ #[] := by apply Array.ext' ; simp
    rw [e1] at hall
    exact hall.mono fun e w' ⟨v, he, hb, hrv⟩ => ⟨v, he, hb, hrv.rep hMlt⟩
theorem pure_remn {o : Oper} {ρ : Operand → Option SV} {ob : List (Nat × Ob)} {x y : Operand} {T T' : TypeId} {k : IntKind} {a b : Int} (ho : o.op = .binOp .rem T x y T') (hx : scal ρ x = some (.int k a)) (hy : scal ρ y = some (.int k b)) (h : 0 ≤ a ∧ 0 < b) : Pure P w0 M0 o ρ ob (.v .pl (.sc (.int k (a % b)))) := by
  have := pure_rem (P := P) (w0 := w0) (M0 := M0) (ob := ob) ho hx hy (by omega)
  rwa [Int.tmod_eq_emod_of_nonneg h.1] at this
theorem pure_quon {o : Oper} {ρ : Operand → Option SV} {ob : List (Nat × Ob)} {x y : Operand} {T T' : TypeId} {a b : Int} (ho : o.op = .binOp .quo T x y T') (hx : scal ρ x = some (.int .i64 a)) (hy : scal ρ y = some (.int .i64 b)) (h : 0 ≤ a ∧ 0 < b ∧ a ≤ 9223372036854775807) : Pure P w0 M0 o ρ ob (.v .pl (int (a / b))) := by
  have := pure_quo (P := P) (w0 := w0) (M0 := M0) (ob := ob) ho hx hy (by omega)
  have h1 : 0 ≤ a / b := Int.ediv_nonneg h.1 (by omega)
  have h2 : a / b ≤ a := Int.ediv_le_self _ h.1
  rwa [Int.tdiv_eq_ediv_of_nonneg h.1, wrap64 (by omega) (by omega)] at this
theorem pure_lenm {α : Type} {f : α → AV} {l : List α} {o : Oper} {ρ : Operand → Option SV} {ob : List (Nat × Ob)} {x : Operand} {T e : TypeId} {c : Cls} (ho : o.op = .call { callee := .builtin .len, args := #[x], argTypes := #[T] }) (hT : P.underlying T = some (.slice e)) (hx : viewAt ρ ob x = some (c, .sl (l.map f))) :
    Pure P w0 M0 o ρ ob (.v .pl (int l.length)) := by
  have := pure_len (P := P) (w0 := w0) (M0 := M0) ho hT hx
  rwa [List.length_map] at this
theorem pure_indexn {α : Type} [Inhabited α] {f : α → AV} {l : List α} {o : Oper} {ρ : Operand → Option SV} {ob : List (Nat × Ob)} {x y : Operand} {T e : TypeId} {c : Cls} {k : Nat} {q : IntKind} {i : Nat} (ho : o.op = .indexAddr T x y) (hT : P.underlying T = some (.slice e)) (hk : szOf P e = some k)
    (hx : viewAt ρ ob x = some (c, .sl (l.map f))) (hy : scal ρ y = some (.int q (i : Int))) (h : i < l.length) (hc : ∀ z, (AV.cells (f z)).length = k) :
    Pure P w0 M0 o ρ ob (.v c (.pc (AV.cells (f (l.getD i default))) 0)) := by
  have := pure_indexm (P := P) (w0 := w0) (M0 := M0) ho hT hk hx hy (by omega) hc
  rwa [Int.toNat_natCast] at this
/-- Ways that meet again. -/
def cutQ (P : Program) (w0 : World) (M0 : Nat → Prop) (R : St → Prop) (Q : Exit → St → Prop) : Exit → St → Prop
  | .normal, s => ∃ s', Imp P w0 M0 s s' ∧ R s'
  | e, s => Q e s
theorem code_cut {x y : Code} {s : St} {Q : Exit → St → Prop} (R : St → Prop) (h : CodeOk P w0 M0 x s (cutQ P w0 M0 R Q)) (h' : ∀ s, R s → CodeOk P w0 M0 y s Q) : CodeOk P w0 M0 (.seq x y) s Q :=
  code_seq (h.mono fun e s' hq => by
    cases e <;> simp only [cutQ, seqQ] at hq ⊢ <;> first
      | exact hq
      | (obtain ⟨s2, hi, hR⟩ := hq
         exact CodeOk.imp hi (h' s2 hR)))
theorem cut_next {R : St → Prop} {Q : Exit → St → Prop} {s : St} {n : Nat} {l : List (Nat × SV)} {o' : List (Nat × Ob)} (hn : s.n = n) (hl : Has s l) (ho : HasO s o') (hR : R ⟨n, l, o'⟩) : cutQ P w0 M0 R Q .normal s := by
  subst hn
  exact ⟨_, imp_has hl ho, hR⟩
theorem cutQ_ret {R : St → Prop} {Q : Exit → St → Prop} {s : St} (h : Q .ret s) : cutQ P w0 M0 R Q .ret s := h
theorem cutQ_exit {R : St → Prop} {Q : Exit → St → Prop} {s : St} {i : Nat} (h : Q (.exit i) s) : cutQ P w0 M0 R Q (.exit i) s := h
theorem pure_min {o : Oper} {ρ : Operand → Option SV} {ob : List (Nat × Ob)} {x y : Operand} {T T' : TypeId} {a b : Int} (ho : o.op = .call { callee := .builtin .min, args := #[x, y], argTypes := #[T, T'] }) (hx : scal ρ x = some (.int .i64 a)) (hy : scal ρ y = some (.int .i64 b)) : Pure P w0 M0 o ρ ob (.v .pl (int (if b < a then b else a))) :=
  pure_scal rfl fun w ev h => by
    simp [execOp, ho, resolve, h x _ hx, h y _ hy, invoke, builtin, go_sem]
end
end Go.Am
