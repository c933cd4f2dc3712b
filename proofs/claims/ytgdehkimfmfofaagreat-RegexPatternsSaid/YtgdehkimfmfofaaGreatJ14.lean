/-
  Contracts that say nothing of the count of draws.
-/
import Derived.Test.YtgdehkimfmfofaaGreatJ12
import Derived.Test.YtgdehkimfmfofaaGreatJ13
import Derived.Test.YtgdehkimfmfofaaGreatJ10
set_option linter.unusedVariables false
set_option linter.unusedSimpArgs false
namespace Go.Am
open Go.RowKit
set_option linter.unusedVariables false
theorem pure_max {P : Program} {w0 : Fr} {M0 : Nat → Prop} {o : Oper} {ρ : Operand → Option SV} {ob : List (Nat × Ob)} {x y : Operand} {T T' : TypeId} {a b : Int} (ho : o.op = .call { callee := .builtin .max, args := #[x, y], argTypes := #[T, T'] }) (hx : scal ρ x = some (.int .i64 a)) (hy : scal ρ y = some (.int .i64 b)) : Pure P w0 M0 o ρ ob (.v .pl (int (if a < b then b else a))) :=
  pure_scal rfl fun w ev h => by
    simp [execOp, ho, resolve, h x _ hx, h y _ hy, invoke, builtin, go_sem]
    rw [Int.max_def]; split <;> split <;> omega
end Go.Am

namespace Go.Am
open Go.RowKit
set_option linter.unusedVariables false
section
variable {P : Program} {w0 : Fr} {M0 : Nat → Prop}
theorem pure_nilbox {o : Oper} {ρ : Operand → Option SV} {ob : List (Nat × Ob)} {x : Operand} {id off : Nat} {e : TypeId} {cs : List SV} (ho : o.op = .nilCheck x) (hx : ρ x = some (.pbox id off)) (hl : ob.lookup id = some (.box e cs)) : Pure P w0 M0 o ρ ob (.pbox id off) :=
  pure_value fun E w ev hw h => by
    have hr := h x _ hx e cs hl
    refine ⟨_, w, by simp only [execOp, ho, hr, Sem.run_pure], .refl _ _, fun e' cs' h' => rfl⟩
def endOC (t k : Nat) (r : SV) (o' : List (Nat × Ob)) : Exit → St → Prop
  | .normal, s | .ret, s => (s.s.lookup t).bind (boxV s.o k) = some r ∧ ∀ id ob, o'.lookup id = some ob → s.o.lookup id = some ob
  | _, _ => False
theorem callO_of_codeC {f n t k : Nat} {T : TypeId} {c : Code} (hf : FnC P f n t T k c) {args : List SV} {o o' : List (Nat × Ob)} {r : SV} (hn : args.length ≤ n)
    (h : ∀ (w0 : Fr) (M0 : Nat → Prop), (∀ b, M0 b → b < w0.w.heap.size) → CodeOk P w0 M0 c (St.enterS n args o) (endOC t k r o')) : CallO P f args o r o' := by
  refine ⟨hf.callable, fun w0 M0 E w vs hM0 hw hv hr => ?_⟩
  obtain ⟨fn, h1, h2, h3, h4, h5, h6, h7⟩ := hf
  refine (calls_coreG h1 h2 h3 (R := fun v E' s' w' => WOk P w0 M0 E' o' w' ∧ SVok P M0 w' E' o' v r) hn vs hv hw hr (h w0 M0 hM0) (fun e s' a' w' E' hq hs => ?_)).mono fun e w' ⟨v, E', s', he, hR⟩ => ⟨v, E', he, hR⟩
  have fin : ((s'.s.lookup t).bind (boxV s'.o k) = some r ∧ ∀ id ob, o'.lookup id = some ob → s'.o.lookup id = some ob) → ∃ v, (results fn a'.tmps).run P w' = .ok v w' ∧ WOk P w0 M0 E' o' w' ∧ SVok P M0 w' E' o' v r := fun ⟨hb, q2⟩ => by
    rw [Option.bind_eq_some_iff] at hb
    obtain ⟨sv, hl, hb⟩ := hb
    obtain ⟨v, g1, g2⟩ := run_load_box_agg h6 h7 hs.wok (hs.slots t sv hl).2 hb
    refine ⟨v, ?_, hs.wok.fewer q2, g2.fewer q2⟩
    simp [results, h4, Sem.run_bind]
    simpa using g1
  cases e with
  | normal => exact ⟨.inl rfl, fin hq⟩
  | ret => exact ⟨.inr rfl, fin hq⟩
  | exit _ => exact hq.elim
  | goto _ => exact hq.elim
  | panic _ => exact hq.elim
  | outgrown => exact hq.elim
theorem endOC_ret {t k : Nat} {r r1 : SV} {o' o1 : List (Nat × Ob)} {s : St} (h : (s.s.lookup t).bind (boxV s.o k) = some r1) (ho : HasO s o1) (e : r1 = r ∧ o1 = o') : endOC t k r o' .ret s := by
  obtain ⟨rfl, rfl⟩ := e
  exact ⟨h, ho.out⟩
def FnC2 (P : Program) (f : FuncId) (n t : Nat) (T : TypeId) (k u : Nat) (c : Code) : Prop := ∃ fn, P.funcs[f]? = some fn ∧ fn.body = some c ∧ fn.ntmps = n ∧ fn.results = #[.cell t T, .tmp u] ∧ (fn.name == "runtime.NumGoroutine") = false ∧ isAggOf P T = some true ∧ szOf P T = some k
theorem FnC2.callable {f n t k u : Nat} {T : TypeId} {c : Code} (h : FnC2 P f n t T k u c) : Callable P f := by
  obtain ⟨fn, h1, h2, _, _, h5, _⟩ := h
  exact ⟨fn, h1, h5, by rw [h2]; rfl⟩
def endC2 (t k u : Nat) (r r' : AV) : Exit → St → Prop
  | .normal, s | .ret, s => (∃ q, ((s.s.lookup t).bind (boxV s.o k)).bind (retOf s.o) = some q ∧ q.data = r) ∧ (∃ q, (s.s.lookup u).bind (retOf s.o) = some q ∧ q.data = r')
  | _, _ => False
theorem callF_of_codeC2 {f n t k u : Nat} {T : TypeId} {c : Code} (hf : FnC2 P f n t T k u c) {ds : List AV} {r r' : AV} (hn : ds.length ≤ n)
    (h : ∀ (w0 : Fr) (M0 : Nat → Prop), (∀ b, M0 b → b < w0.w.heap.size) → CodeOk P w0 M0 c (St.enter n .mx ds) (endC2 t k u r r')) : CallF P f ds (.p (.tup [r, r'])) := by
  refine ⟨hf.callable, fun w vs hv hr => ?_⟩
  have h0 := h (Fr.all w) (fun b => b < w.heap.size) (fun b hb => hb)
  rw [enter_eq] at h0
  obtain ⟨fn, h1, h2, h3, h4, h5, h6, h7⟩ := hf
  refine (calls_coreG h1 h2 h3 (R := fun v E' s' w' => Below w.heap.size w w' ∧ RVok P w' (fun b => b < w.heap.size) (fun b => b < w.heap.size) v (.p (.tup [r, r']))) (by simpa using hn) vs (by simpa using hv) wok_nil (fun j d hd => ?_) h0 (fun e s' a' w' E' hq hs => ?_)).mono fun e w' ⟨v, E', s', he, hR⟩ => ⟨v, he, hR⟩
  · rw [List.getElem?_map, Option.map_eq_some_iff] at hd
    obtain ⟨a, ha, rfl⟩ := hd
    have := hr j a ha
    simp only [SVok, owned_nil]
    exact this
  · have fin : ((∃ q, ((s'.s.lookup t).bind (boxV s'.o k)).bind (retOf s'.o) = some q ∧ q.data = r) ∧ (∃ q, (s'.s.lookup u).bind (retOf s'.o) = some q ∧ q.data = r')) →
        ∃ v, (results fn a'.tmps).run P w' = .ok v w' ∧ Below w.heap.size w w' ∧ RVok P w' (fun b => b < w.heap.size) (fun b => b < w.heap.size) v (.p (.tup [r, r'])) := by
      rintro ⟨⟨q1, hb, hd1⟩, ⟨q2, hu, hd2⟩⟩
      rw [Option.bind_eq_some_iff] at hb
      obtain ⟨sv', hb, hret⟩ := hb
      rw [Option.bind_eq_some_iff] at hb
      obtain ⟨sv, hl, hb⟩ := hb
      rw [Option.bind_eq_some_iff] at hu
      obtain ⟨su, hlu, hretu⟩ := hu
      obtain ⟨v, g1, g2⟩ := run_load_box_agg h6 h7 hs.wok (hs.slots t sv hl).2 hb
      have r1 := (retOf_ok hs.wok g2 hret).rep (fun b hb => hb)
      have r2 := (retOf_ok hs.wok (hs.slots u su hlu).2 hretu).rep (fun b hb => hb)
      rw [hd1] at r1; rw [hd2] at r2
      refine ⟨.tuple #[v, a'.tmps.getD u undef], ?_, hs.wok.below.below, .tup [v, a'.tmps.getD u undef] [r, r'] rfl (fun j d hd => by
        match j, hd with
        | 0, hd => simp at hd; subst hd; exact r1
        | 1, hd => simp at hd; subst hd; exact r2
        | j + 2, hd => simp at hd)⟩
      have g1' : ((Sem.run P (asAddr (a'.tmps[t]?.getD undef)) w').andThen fun x w => Sem.run P (loadVar T x) w) = .ok v w' := by simpa using g1
      simp [results, h4, Sem.run_bind]
      revert g1'
      cases Sem.run P (asAddr (a'.tmps[t]?.getD undef)) w' with
      | ok a w2 => intro g; simp only [Result.andThen_ok] at g ⊢; rw [g]; rfl
      | _ => intro g; exact absurd g (by simp [Result.andThen])
    cases e with
    | normal => exact ⟨.inl rfl, fin hq⟩
    | ret => exact ⟨.inr rfl, fin hq⟩
    | exit _ => exact hq.elim
    | goto _ => exact hq.elim
    | panic _ => exact hq.elim
    | outgrown => exact hq.elim
theorem endC2_ret {t k u : Nat} {r r' : AV} {s : St} {q q' : RV} (h : ((s.s.lookup t).bind (boxV s.o k)).bind (retOf s.o) = some q) (h' : (s.s.lookup u).bind (retOf s.o) = some q') (e : q.data = r ∧ q'.data = r') : endC2 t k u r r' .ret s := ⟨⟨q, h, e.1⟩, ⟨q', h', e.2⟩⟩
end
end Go.Am

namespace Go.Am
open Go.RowKit
set_option linter.unusedVariables false
section
variable {P : Program} {w0 : Fr} {M0 : Nat → Prop}
def Fn3 (P : Program) (f : FuncId) (n t u v : Nat) (c : Code) : Prop := ∃ fn, P.funcs[f]? = some fn ∧ fn.body = some c ∧ fn.ntmps = n ∧ fn.results = #[.tmp t, .tmp u, .tmp v] ∧ (fn.name == "runtime.NumGoroutine") = false
theorem Fn3.callable {f n t u v : Nat} {c : Code} (h : Fn3 P f n t u v c) : Callable P f := by
  obtain ⟨fn, h1, h2, _, _, h5⟩ := h
  exact ⟨fn, h1, h5, by rw [h2]; rfl⟩
def endQ3 (t u v : Nat) (r r' r'' : AV) : Exit → St → Prop
  | .normal, s | .ret, s => (∃ q, (s.s.lookup t).bind (retOf s.o) = some q ∧ q.data = r) ∧ (∃ q, (s.s.lookup u).bind (retOf s.o) = some q ∧ q.data = r') ∧ (∃ q, (s.s.lookup v).bind (retOf s.o) = some q ∧ q.data = r'')
  | _, _ => False
theorem callF_of_code3 {f n t u v : Nat} {c : Code} (hf : Fn3 P f n t u v c) {ds : List AV} {r r' r'' : AV} (hn : ds.length ≤ n)
    (h : ∀ (w0 : Fr) (M0 : Nat → Prop), (∀ b, M0 b → b < w0.w.heap.size) → CodeOk P w0 M0 c (St.enter n .mx ds) (endQ3 t u v r r' r'')) : CallF P f ds (.p (.tup [r, r', r''])) := by
  refine ⟨hf.callable, fun w vs hv hr => ?_⟩
  have h0 := h (Fr.all w) (fun b => b < w.heap.size) (fun b hb => hb)
  rw [enter_eq] at h0
  obtain ⟨fn, h1, h2, h3, h4, h5⟩ := hf
  refine (calls_coreG h1 h2 h3 (R := fun v E' s' w' => Below w.heap.size w w' ∧ RVok P w' (fun b => b < w.heap.size) (fun b => b < w.heap.size) v (.p (.tup [r, r', r'']))) (by simpa using hn) vs (by simpa using hv) wok_nil (fun j d hd => ?_) h0 (fun e s' a' w' E' hq hs => ?_)).mono fun e w' ⟨v, E', s', he, hR⟩ => ⟨v, he, hR⟩
  · rw [List.getElem?_map, Option.map_eq_some_iff] at hd
    obtain ⟨a, ha, rfl⟩ := hd
    have := hr j a ha
    simp only [SVok, owned_nil]
    exact this
  · have fin : ((∃ q, (s'.s.lookup t).bind (retOf s'.o) = some q ∧ q.data = r) ∧ (∃ q, (s'.s.lookup u).bind (retOf s'.o) = some q ∧ q.data = r') ∧ (∃ q, (s'.s.lookup v).bind (retOf s'.o) = some q ∧ q.data = r'')) →
        ∃ v, (results fn a'.tmps).run P w' = .ok v w' ∧ Below w.heap.size w w' ∧ RVok P w' (fun b => b < w.heap.size) (fun b => b < w.heap.size) v (.p (.tup [r, r', r''])) := by
      rintro ⟨⟨q1, hq1, hd1⟩, ⟨q2, hq2, hd2⟩, ⟨q3, hq3, hd3⟩⟩
      have one : ∀ x q, (s'.s.lookup x).bind (retOf s'.o) = some q → Rep w' (fun b => b < w.heap.size) (a'.tmps.getD x undef) q.data := by
        intro x q hx
        cases hl : s'.s.lookup x with
        | none => rw [hl] at hx; cases hx
        | some sv =>
          rw [hl] at hx
          exact (retOf_ok hs.wok (hs.slots x sv hl).2 hx).rep (fun b hb => hb)
      have r1 := one t q1 hq1
      have r2 := one u q2 hq2
      have r3 := one v q3 hq3
      rw [hd1] at r1; rw [hd2] at r2; rw [hd3] at r3
      refine ⟨.tuple #[a'.tmps.getD t undef, a'.tmps.getD u undef, a'.tmps.getD v undef], by simp [results, h4], hs.wok.below.below, .tup [a'.tmps.getD t undef, a'.tmps.getD u undef, a'.tmps.getD v undef] [r, r', r''] rfl (fun j d hd => by
        match j, hd with
        | 0, hd => simp at hd; subst hd; exact r1
        | 1, hd => simp at hd; subst hd; exact r2
        | 2, hd => simp at hd; subst hd; exact r3
        | j + 3, hd => simp at hd)⟩
    cases e with
    | normal => exact ⟨.inl rfl, fin hq⟩
    | ret => exact ⟨.inr rfl, fin hq⟩
    | exit _ => exact hq.elim
    | goto _ => exact hq.elim
    | panic _ => exact hq.elim
    | outgrown => exact hq.elim
theorem end3_ret {t u v : Nat} {r r' r'' : AV} {s : St} {q q' q'' : RV} (h : (s.s.lookup t).bind (retOf s.o) = some q) (h' : (s.s.lookup u).bind (retOf s.o) = some q') (h'' : (s.s.lookup v).bind (retOf s.o) = some q'') (e : q.data = r ∧ q'.data = r' ∧ q''.data = r'') : endQ3 t u v r r' r'' .ret s := ⟨⟨q, h, e.1⟩, ⟨q', h', e.2.1⟩, ⟨q'', h'', e.2.2⟩⟩
end
end Go.Am

namespace Go.Am
open Go.RowKit
set_option linter.unusedVariables false
def CallW (P : Program) (f : FuncId) (ds : List AV) (r : RV) : Prop :=
  Callable P f ∧ ∀ (w : World) (vs : List Value), vs.length = ds.length → (∀ (j : Nat) d, ds[j]? = some d → Rep w (fun _ => False) (vs.getD j undef) d) →
    Calls P f vs.toArray w fun e w' => ∃ v, e = .returned v ∧ BelowD False w.heap.size w w' ∧ RVok P w' (fun b => b < w.heap.size) (fun b => b < w.heap.size) v r
section
variable {P : Program} {w0 : Fr} {M0 : Nat → Prop}
theorem callW_of_code {f n t : Nat} {c : Code} (hf : Fn1 P f n t c) {ds : List AV} {r : RV} (hn : ds.length ≤ n)
    (h : ∀ (w0 : Fr) (M0 : Nat → Prop), (∀ b, M0 b → b < w0.w.heap.size) → ¬ w0.dr → CodeOk P w0 M0 c (St.enter n .mx ds) (endQ t r)) : CallW P f ds r :=
  ⟨hf.callable, fun w vs hv hr => calls_of_code (D := False) (cl := .mx) hf hn vs hv (fun j d hd => hr j d hd) (h (Fr.allD False w) (fun b => b < w.heap.size) (fun b hb => hb) (fun h => h))⟩
theorem pure_callW {o : Oper} {ρ : Operand → Option SV} {ob : List (Nat × Ob)} {cx : Operand} {args : Array Operand} {ats : Array TypeId} {c : Cls} {f : FuncId} {caps ds : List AV} {r : RV} (hdr : ¬ w0.dr)
    (ho : o.op = .call { callee := .value cx, args := args, argTypes := ats }) (hc : ρ cx = some (.v c (.clo f caps))) (ha : viewAll ρ ob args.toList = some ds) (h : CallW P f (ds ++ caps) r)
    (hM0 : ∀ b, M0 b → b < w0.w.heap.size) : Pure P w0 M0 o ρ ob (.v .pl r.data) := by
  intro E w ev hw hx
  have hcv := hx cx _ hc
  simp only [SVok] at hcv
  generalize hq : ev cx = q at hcv
  cases hcv with
  | clo _ vs _ hn hr =>
    have hv := viewAll_ok hw hx _ _ ha
    unfold Yield
    rw [run_call ho hq h.1]
    refine ⟨rfl, ?_⟩
    have hall := h.2 w (args.toList.map ev ++ vs) (by simp [hv.1, hn]) (fun j d hd => ?_)
    · have e1 : (args.toList.map ev ++ vs).toArray = args.map ev ++ vs.toArray := by apply Array.ext' ; simp
      rw [e1] at hall
      refine hall.mono fun e w' ⟨v, he, hb, hrv⟩ => ⟨v, he, hb.less (fun d => hdr d), ?_⟩
      have hrep := hrv.rep (fun b hb => hb)
      refine hrep.weak fun b hb' => ?_
      rcases hb' with hb' | hb'
      · have := hM0 b hb'; have := hw.below.size; omega
      · exact (hw.owned_range hb').2
    · rw [List.getD_eq_getElem?_getD]
      rcases Nat.lt_or_ge j ds.length with hlt | hge
      · rw [List.getElem?_append_left hlt] at hd
        have := hv.2 j d hd
        rw [List.getElem?_append_left (by simp [hv.1]; omega)]
        rwa [List.getD_eq_getElem?_getD] at this
      · rw [List.getElem?_append_right hge] at hd
        have := hr _ d hd
        rw [List.getElem?_append_right (by simp [hv.1]; omega)]
        simp only [List.length_map, hv.1]
        rw [List.getD_eq_getElem?_getD] at this
        exact this.weak (fun b hb => hb.elim)
theorem CallW.use {f : FuncId} {ds : List AV} {r : RV} (h : CallW P f ds r) {w : World} {vs : List Value} (hr : Reps w (fun _ => False) vs ds) :
    Calls P f vs.toArray w fun e w' => ∃ v, e = .returned v ∧ BelowD False w.heap.size w w' ∧ RVok P w' (fun b => b < w.heap.size) (fun b => b < w.heap.size) v r :=
  h.2 w vs hr.get.1 hr.get.2
end
end Go.Am

