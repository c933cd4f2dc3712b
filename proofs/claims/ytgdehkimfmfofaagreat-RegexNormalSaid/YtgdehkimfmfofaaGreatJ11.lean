/-
  Plain functions: a list without repetitions of neighbours.
-/
import Derived.Test.YtgdehkimfmfofaaGreatJ10
set_option linter.unusedVariables false
set_option linter.unusedSimpArgs false
namespace Go.Am
open Go.RowKit
set_option linter.unusedVariables false
section
variable {P : Program} {w0 : Fr} {M0 : Nat → Prop}
theorem WOk.fewer {E : Env} {o o' : List (Nat × Ob)} {w : World} (hw : WOk P w0 M0 E o w) (ho' : ∀ id ob, o'.lookup id = some ob → o.lookup id = some ob) : WOk P w0 M0 E o' w := by
  have hown : ∀ b, owned E o' b → owned E o b := fun b ⟨id, ob, h1, h2⟩ => ⟨id, ob, ho' id ob h1, h2⟩
  refine ⟨fun id ob hid => ?_, fun id ob id' ob' b h1 h2 => hw.disj id ob id' ob' b (ho' _ _ h1) (ho' _ _ h2), hw.below, hw.pins⟩
  have := hw.objs id ob (ho' id ob hid)
  cases ob with
  | arr e xs =>
    obtain ⟨vals, h1, h2, h3⟩ := this
    exact ⟨vals, h1, h2, fun j d hd => ⟨(h3 j d hd).1, (h3 j d hd).2.weak (clsM_mono hown .pl)⟩⟩
  | box e cs =>
    obtain ⟨vals, h1, h2, h3, h4⟩ := this
    exact ⟨vals, h1, h2, h3, fun j sv hj => ⟨(h4 j sv hj).1, (h4 j sv hj).2.1, (h4 j sv hj).2.2.fewer ho'⟩⟩
  | mp ks vs =>
    obtain ⟨es, clock, h1, h2, h3, h4, h5⟩ := this
    exact ⟨es, clock, h1, h2, h3, h4, fun j d hd => (h5 j d hd).weak (clsM_mono hown .pl)⟩
theorem calls_coreG {f n : Nat} {fn : Func} {c : Code} (hf : P.funcs[f]? = some fn) (hb : fn.body = some c) (hnt : fn.ntmps = n) {args : List SV} {o : List (Nat × Ob)} {Q : Exit → St → Prop} {R : Value → Env → St → World → Prop} {E : Env} {w : World} (hn : args.length ≤ n) (vs : List Value) (hv : vs.length = args.length)
    (hw : WOk P w0 M0 E o w) (hr : ∀ (j : Nat) d, args[j]? = some d → SVok P M0 w E o (vs.getD j undef) d)
    (h : CodeOk P w0 M0 c (St.enterS n args o) Q) (hQ : ∀ e s' a' w' E', Q e s' → SimE P w0 M0 E' s' a' w' → (e = .normal ∨ e = .ret) ∧ ∃ v, (results fn a'.tmps).run P w' = .ok v w' ∧ R v E' s' w') :
    Calls P f vs.toArray w fun e w' => ∃ v E' s', e = .returned v ∧ R v E' s' w' := by
  have hE : SimE P w0 M0 E (St.enterS n args o) { tmps := vs.toArray ++ Array.replicate (fn.ntmps - vs.toArray.size) undef, defers := [] } w := by
    refine ⟨by simp [St.enterS, hnt]; omega, rfl, fun t d ht => ?_, hw⟩
    obtain ⟨_, he⟩ := lookup_enterS args 0 t d ht
    rw [Nat.sub_zero] at he
    have hlt : t < args.length := (List.getElem?_eq_some_iff.1 he).1
    refine ⟨by simp [St.enterS]; omega, ?_⟩
    have := hr t d he
    have hget : (vs.toArray ++ Array.replicate (fn.ntmps - vs.toArray.size) undef).getD t undef = vs.getD t undef := by
      rw [Array.getD_eq_getD_getElem?, Array.getElem?_append_left (by simp; omega), List.getD_eq_getElem?_getD]; simp
    rw [hget]; exact this
  refine calls_of_wp hf hb (wp_mono (h _ _ ⟨_, hE⟩) fun e a' w' ⟨s', hq, E', hs⟩ => ?_)
  obtain ⟨he, v, hv1, hv2⟩ := hQ e s' a' w' E' hq hs
  have fin : a'.defers = [] ∧ ∃ v, (results fn a'.tmps).run P w' = .ok v w' ∧ ∃ v_1 E'_1 s'_1, Ending.returned v = Ending.returned v_1 ∧ R v_1 E'_1 s'_1 w' := ⟨hs.defers, v, hv1, _, E', s', rfl, hv2⟩
  rcases he with rfl | rfl
  · exact fin
  · exact fin
def endO (t : Nat) (r : SV) (o' : List (Nat × Ob)) : Exit → St → Prop
  | .normal, s | .ret, s => s.s.lookup t = some r ∧ ∀ id ob, o'.lookup id = some ob → s.o.lookup id = some ob
  | _, _ => False
def endO0 (o' : List (Nat × Ob)) : Exit → St → Prop
  | .normal, s | .ret, s => ∀ id ob, o'.lookup id = some ob → s.o.lookup id = some ob
  | _, _ => False
def endO2 (t u : Nat) (r r' : AV) (o' : List (Nat × Ob)) : Exit → St → Prop
  | .normal, s | .ret, s => (s.s.lookup t = some (.v .pl r) ∧ s.s.lookup u = some (.v .pl r')) ∧ ∀ id ob, o'.lookup id = some ob → s.o.lookup id = some ob
  | _, _ => False
def Fn0 (P : Program) (f : FuncId) (n : Nat) (c : Code) : Prop := ∃ fn, P.funcs[f]? = some fn ∧ fn.body = some c ∧ fn.ntmps = n ∧ fn.results = #[] ∧ (fn.name == "runtime.NumGoroutine") = false
theorem Fn0.callable {f n : Nat} {c : Code} (h : Fn0 P f n c) : Callable P f := by
  obtain ⟨fn, h1, h2, _, _, h5⟩ := h
  exact ⟨fn, h1, h5, by rw [h2]; rfl⟩
theorem callO_of_code {f n t : Nat} {c : Code} (hf : Fn1 P f n t c) {args : List SV} {o o' : List (Nat × Ob)} {r : SV} (hn : args.length ≤ n)
    (h : ∀ (w0 : Fr) (M0 : Nat → Prop), (∀ b, M0 b → b < w0.w.heap.size) → CodeOk P w0 M0 c (St.enterS n args o) (endO t r o')) : CallO P f args o r o' := by
  refine ⟨hf.callable, fun w0 M0 E w vs hM0 hw hv hr => ?_⟩
  obtain ⟨fn, h1, h2, h3, h4, h5⟩ := hf
  refine (calls_coreG h1 h2 h3 (R := fun v E' s' w' => WOk P w0 M0 E' o' w' ∧ SVok P M0 w' E' o' v r) hn vs hv hw hr (h w0 M0 hM0) (fun e s' a' w' E' hq hs => ?_)).mono fun e w' ⟨v, E', s', he, hR⟩ => ⟨v, E', he, hR⟩
  have fin : s'.s.lookup t = some r ∧ (∀ id ob, o'.lookup id = some ob → s'.o.lookup id = some ob) → ∃ v, (results fn a'.tmps).run P w' = .ok v w' ∧ WOk P w0 M0 E' o' w' ∧ SVok P M0 w' E' o' v r := fun ⟨q1, q2⟩ =>
    ⟨a'.tmps.getD t undef, by simp [results, h4], hs.wok.fewer q2, (hs.slots t r q1).2.fewer q2⟩
  cases e with
  | normal => exact ⟨.inl rfl, fin hq⟩
  | ret => exact ⟨.inr rfl, fin hq⟩
  | exit _ => exact hq.elim
  | goto _ => exact hq.elim
  | panic _ => exact hq.elim
  | outgrown => exact hq.elim
theorem callO_of_code0 {f n : Nat} {c : Code} (hf : Fn0 P f n c) {args : List SV} {o o' : List (Nat × Ob)} (hn : args.length ≤ n)
    (h : ∀ (w0 : Fr) (M0 : Nat → Prop), (∀ b, M0 b → b < w0.w.heap.size) → CodeOk P w0 M0 c (St.enterS n args o) (endO0 o')) : CallO P f args o (.v .pl (.tup [])) o' := by
  refine ⟨hf.callable, fun w0 M0 E w vs hM0 hw hv hr => ?_⟩
  obtain ⟨fn, h1, h2, h3, h4, h5⟩ := hf
  refine (calls_coreG h1 h2 h3 (R := fun v E' s' w' => WOk P w0 M0 E' o' w' ∧ SVok P M0 w' E' o' v (.v .pl (.tup []))) hn vs hv hw hr (h w0 M0 hM0) (fun e s' a' w' E' hq hs => ?_)).mono fun e w' ⟨v, E', s', he, hR⟩ => ⟨v, E', he, hR⟩
  have fin : (∀ id ob, o'.lookup id = some ob → s'.o.lookup id = some ob) → ∃ v, (results fn a'.tmps).run P w' = .ok v w' ∧ WOk P w0 M0 E' o' w' ∧ SVok P M0 w' E' o' v (.v .pl (.tup [])) := fun q2 =>
    ⟨.tuple #[], by simp [results, h4], hs.wok.fewer q2, .tup [] [] rfl (fun j d hd => by simp at hd)⟩
  cases e with
  | normal => exact ⟨.inl rfl, fin hq⟩
  | ret => exact ⟨.inr rfl, fin hq⟩
  | exit _ => exact hq.elim
  | goto _ => exact hq.elim
  | panic _ => exact hq.elim
  | outgrown => exact hq.elim
theorem endO_ret {t : Nat} {r r1 : SV} {o' o1 : List (Nat × Ob)} {s : St} (h : s.s.lookup t = some r1) (ho : HasO s o1) (e : r1 = r ∧ o1 = o') : endO t r o' .ret s := by
  obtain ⟨rfl, rfl⟩ := e
  exact ⟨h, ho.out⟩
theorem endO0_normal {o' o1 : List (Nat × Ob)} {s : St} (ho : HasO s o1) (e : o1 = o') : endO0 o' .normal s := by
  subst e; exact ho.out
def Cap.sv : Cap → SV
  | .bx id => .pbox id 0
  | .pl d => .v .pl d
def calleeOf : SV → Option (FuncId × List SV)
  | .v c (.clo f caps) => some (f, caps.map (.v c))
  | .fn f caps => some (f, caps.map Cap.sv)
  | _ => none
theorem calleeOf_ok {E : Env} {o : List (Nat × Ob)} {w : World} {v : Value} {d : SV} {f : FuncId} {cs : List SV} (h : SVok P M0 w E o v d) (hc : calleeOf d = some (f, cs)) :
    ∃ vs : List Value, v = .func (.func f) #[] vs.toArray ∧ vs.length = cs.length ∧ ∀ (j : Nat) e, cs[j]? = some e → SVok P M0 w E o (vs.getD j undef) e := by
  unfold calleeOf at hc
  split at hc
  · simp only [Option.some.injEq, Prod.mk.injEq] at hc
    obtain ⟨rfl, rfl⟩ := hc
    cases h with
    | clo _ vs _ hn hr =>
      refine ⟨vs, rfl, by simpa using hn, fun j e he => ?_⟩
      rw [List.getElem?_map, Option.map_eq_some_iff] at he
      obtain ⟨a, ha, rfl⟩ := he
      exact hr j a ha
  · simp only [Option.some.injEq, Prod.mk.injEq] at hc
    obtain ⟨rfl, rfl⟩ := hc
    obtain ⟨vs, h1, h2, h3⟩ := h
    refine ⟨vs, h1, by simpa using h2, fun j e he => ?_⟩
    rw [List.getElem?_map, Option.map_eq_some_iff] at he
    obtain ⟨c, hc, rfl⟩ := he
    have := h3 j c hc
    cases c with
    | bx id => exact this
    | pl d => exact this
  · cases hc
def evs (s : St) : List Operand → Option (List SV)
  | [] => some []
  | x :: r => match s.ev x, evs s r with
    | some d, some ds => some (d :: ds)
    | _, _ => none
theorem evs_ok {E : Env} {s : St} {a : Act} {w : World} (hs : SimE P w0 M0 E s a w) : ∀ {xs : List Operand} {ds : List SV}, evs s xs = some ds → xs.length = ds.length ∧ ∀ (j : Nat) d, ds[j]? = some d → SVok P M0 w E s.o ((xs.map a.eval).getD j undef) d
  | [], ds, h => by simp only [evs, Option.some.injEq] at h; subst h; exact ⟨rfl, fun j d hd => by simp at hd⟩
  | x :: r, ds, h => by
    unfold evs at h
    split at h
    · rename_i d0 ds0 h1 h2
      simp only [Option.some.injEq] at h
      subst h
      obtain ⟨g1, g2⟩ := evs_ok hs h2
      refine ⟨by simp [g1], fun j d hd => ?_⟩
      cases j with
      | zero => simp only [List.getElem?_cons_zero, Option.some.injEq] at hd; subst hd; exact hs.ev h1
      | succ j => exact g2 j d (by simpa using hd)
    · cases h
def ArgOk (s : St) (ρ : List (Nat × Nat)) (ids : List Nat) (sv d : SV) : Prop :=
  sv = d.ren ρ ∨ (∃ a, sv = .v .pl a ∧ d = .v .mx a) ∨ (∃ i e xs, sv = .own i ∧ s.o.lookup i = some (.arr e xs) ∧ ids.contains i = false ∧ d = .v .mx (.sl xs))
def ArgsOk (s : St) (ρ : List (Nat × Nat)) (ids : List Nat) : List SV → List SV → Prop
  | [], [] => True
  | sv :: r, d :: ds => ArgOk s ρ ids sv d ∧ ArgsOk s ρ ids r ds
  | _, _ => False
theorem ArgsOk.get {s : St} {ρ : List (Nat × Nat)} {ids : List Nat} : ∀ {l m : List SV}, ArgsOk s ρ ids l m → l.length = m.length ∧ ∀ (j : Nat) d, m[j]? = some d → ∃ sv, l[j]? = some sv ∧ ArgOk s ρ ids sv d
  | [], [], _ => ⟨rfl, fun j d hd => by simp at hd⟩
  | sv :: r, d :: ds, h => by
    obtain ⟨g1, g2⟩ := ArgsOk.get h.2
    refine ⟨by simp [g1], fun j e he => ?_⟩
    cases j with
    | zero => simp only [List.getElem?_cons_zero, Option.some.injEq] at he; subst he; exact ⟨sv, rfl, h.1⟩
    | succ j => exact g2 j e (by simpa using he)
theorem arg_ok {E : Env} {s : St} {w : World} {ρ : List (Nat × Nat)} {oc : List (Nat × Ob)} (hw : WOk P w0 M0 E s.o w) (hob : ∀ a ob, oc.lookup a = some ob → s.o.lookup (rn ρ a) = some (ob.ren ρ)) {v : Value} {sv d : SV} (h : SVok P M0 w E s.o v sv) (ha : ArgOk s ρ (idsO ρ oc) sv d) :
    SVok P (avC M0 (owned E s.o) (owned (envC E ρ) oc)) w (envC E ρ) oc v d := by
  rcases ha with rfl | ⟨a, rfl, rfl⟩ | ⟨i, e, xs, rfl, hl, hi, rfl⟩
  · exact sv_ren hob h
  · exact Rep.weak h fun b hb => .inr (owned_ren hob hb)
  · rw [h e xs hl]
    refine (hw.objs i _ hl).rep (fun b hb => .inr (owned_ren hob hb)) (fun g hg => ?_)
    rintro ⟨a, ob0, h1, h2⟩
    have := hw.disj i _ (rn ρ a) _ g hl (hob a ob0 h1) hg (ownB_ren.1 h2)
    rw [List.contains_eq_mem, decide_eq_false_iff_not] at hi
    exact hi (List.mem_map.2 ⟨_, lookup_mem h1, this.symm⟩)
def HasRen (s : St) (ρ : List (Nat × Nat)) : List (Nat × Ob) → Prop
  | [] => True
  | (a, ob) :: r => s.o.lookup (rn ρ a) = some (ob.ren ρ) ∧ HasRen s ρ r
theorem HasRen.out {s : St} {ρ : List (Nat × Nat)} : ∀ {oc : List (Nat × Ob)}, HasRen s ρ oc → ∀ a ob, oc.lookup a = some ob → s.o.lookup (rn ρ a) = some (ob.ren ρ)
  | [], _, a, ob, h => by simp at h
  | (b, y) :: r, h, a, ob, hl => by
    rw [lookup_cons'] at hl
    split at hl
    · rename_i he
      subst he
      simp only [Option.some.injEq] at hl
      subst hl
      exact h.1
    · exact HasRen.out h.2 a ob hl
theorem step_callO {o : Oper} {s : St} {cx : Operand} {xs : Array Operand} {ats : Array TypeId} {t : Nat} {f : FuncId} {dc : SV} {caps svs args : List SV} {r : SV} {oc oc' : List (Nat × Ob)} (ρ : List (Nat × Nat)) (ho : o.op = .call { callee := .value cx, args := xs, argTypes := ats }) (hd : o.dst = some t) (hn : Nat.blt t s.n = true) (hnd : Nodup s.s = true)
    (hc : s.ev cx = some dc) (hcc : calleeOf dc = some (f, caps)) (ha : evs s xs.toList = some svs) (h : CallO P f args oc r oc') (hargs : ArgsOk s ρ (idsO ρ oc) (svs ++ caps) args) (hob : HasRen s ρ oc) (hinj : nodupN (idsO ρ oc) = true) (hsame : oc.map (fun p => (p.1, p.2.kind)) = oc'.map (fun p => (p.1, p.2.kind)))
    (hbig : oc.all (fun p => Nat.beq p.2.kind 0 || Nat.ble 1000000 p.1) = true) (hpl : oc'.all (fun p => p.2.plain (oc'.map (·.1))) = true) (hr : r.plain (oc'.map (·.1)) = true) (hM0 : ∀ b, M0 b → b < w0.w.heap.size) :
    Step P w0 M0 o s ((s.after ρ oc').put t (r.ren ρ)) := by
  rintro a w Q ⟨E, hs⟩
  obtain ⟨vc, hvc, hcn, hcr⟩ := calleeOf_ok (hs.ev hc) hcc
  obtain ⟨hxn, hxr⟩ := evs_ok hs ha
  have hob' := hob.out
  obtain ⟨han, har⟩ := hargs.get
  unfold Oper.wp
  rw [run_call ho hvc h.1]
  simp only [Oper.upon]
  have hwc := wok_ren hs.wok hob' hinj
  have hall := h.2 (frC w0.dr w (envC E ρ) oc) (avC M0 (owned E s.o) (owned (envC E ρ) oc)) (envC E ρ) w (xs.toList.map a.eval ++ vc) (fun b hb => ?_) hwc (by rw [← han]; simp [hxn, hcn]) (fun j d hd => ?_)
  · have e1 : (xs.toList.map a.eval ++ vc).toArray = xs.map a.eval ++ vc.toArray := by apply Array.ext' ; simp
    rw [e1] at hall
    refine hall.mono fun e' w' ⟨v, E', he, hw', hv⟩ => ?_
    subst he
    simp only [hd]
    obtain ⟨E'', h1, h2⟩ := hs.after hnd hob' hinj hsame hbig hpl hw'
    exact ⟨E'', h1.put (by simpa [St.after] using hn) (h2 v r hr hv)⟩
  · rcases hb with hb | hb
    · have := hM0 b hb; have := hs.wok.below.size; show b < w.heap.size; omega
    · exact (hs.wok.owned_range hb.1).2
  · obtain ⟨sv, hsv, hok⟩ := har j d hd
    refine arg_ok hs.wok hob' ?_ hok
    rw [List.getD_eq_getElem?_getD]
    rcases Nat.lt_or_ge j svs.length with hlt | hge
    · rw [List.getElem?_append_left hlt] at hsv
      have := hxr j sv hsv
      rw [List.getElem?_append_left (by simp [hxn]; omega)]
      rwa [List.getD_eq_getElem?_getD] at this
    · rw [List.getElem?_append_right hge] at hsv
      have := hcr _ sv hsv
      rw [List.getElem?_append_right (by simp [hxn]; omega)]
      simp only [List.length_map, hxn]
      rwa [List.getD_eq_getElem?_getD] at this
def capsO (s : Operand → Option SV) : List Operand → Option (List Cap)
  | [] => some []
  | x :: r => match s x, capsO s r with
    | some (.pbox id 0), some cs => some (.bx id :: cs)
    | some (.v .pl d), some cs => some (.pl d :: cs)
    | _, _ => none
end
end Go.Am

namespace Go.Am
open Go.RowKit
set_option linter.unusedVariables false
section
variable {P : Program} {w0 : Fr} {M0 : Nat → Prop}
def FnC (P : Program) (f : FuncId) (n t : Nat) (T : TypeId) (k : Nat) (c : Code) : Prop := ∃ fn, P.funcs[f]? = some fn ∧ fn.body = some c ∧ fn.ntmps = n ∧ fn.results = #[.cell t T] ∧ (fn.name == "runtime.NumGoroutine") = false ∧ isAggOf P T = some true ∧ szOf P T = some k
theorem FnC.callable {f n t k : Nat} {T : TypeId} {c : Code} (h : FnC P f n t T k c) : Callable P f := by
  obtain ⟨fn, h1, h2, _, _, h5, _⟩ := h
  exact ⟨fn, h1, h5, by rw [h2]; rfl⟩
def boxV (ob : List (Nat × Ob)) (k : Nat) : SV → Option SV
  | .pbox id off => match ob.lookup id with
    | some (.box _ cs) => if Nat.ble (off + k) cs.length then (cellsView ob ((cs.drop off).take k)).map fun p => .v p.1 (.agg p.2) else none
    | _ => none
  | _ => none
def endC (t k : Nat) (r : RV) : Exit → St → Prop
  | .normal, s | .ret, s => ((s.s.lookup t).bind (boxV s.o k)).bind (retOf s.o) = some r
  | _, _ => False
theorem run_load_box_agg {E : Env} {ob : List (Nat × Ob)} {w : World} {T : TypeId} {k : Nat} {v : Value} {sv sv' : SV} (hT : isAggOf P T = some true) (hk : szOf P T = some k) (hw : WOk P w0 M0 E ob w)
    (h : SVok P M0 w E ob v sv) (hb : boxV ob k sv = some sv') : ∃ v', ((asAddr v).run P w).andThen (fun x w => (loadVar T x).run P w) = .ok v' w ∧ SVok P M0 w E ob v' sv' := by
  unfold boxV at hb
  split at hb
  · rename_i id off
    split at hb
    · rename_i e cs hl
      split at hb
      · rename_i hle
        rw [Option.map_eq_some_iff] at hb
        obtain ⟨⟨c, al⟩, hv, rfl⟩ := hb
        have hr := h e cs hl
        have hle' := Nat.le_of_ble_eq_true hle
        obtain ⟨vals, h1, h2, h3, h4⟩ := hw.objs id _ hl
        have hvl : ((vals.drop off).take k).length = ((cs.drop off).take k).length := by simp; omega
        obtain ⟨g1, g2⟩ := cellsView_ok hw ((cs.drop off).take k) ((vals.drop off).take k) c al hvl (fun j d hd => by
          rw [List.getElem?_take] at hd
          split at hd
          · rename_i hj
            rw [List.getElem?_drop] at hd
            have := (h4 _ d hd).2.2
            rw [List.getD_eq_getElem?_getD] at this ⊢
            rwa [List.getElem?_take, if_pos hj, List.getElem?_drop]
          · cases hd) hv
        have hcell := run_loadCells (P := P) w ⟨E.blk id, off, none⟩ k (fun j => vals.getD (off + j) undef) (fun j hj => by
          rw [Addr.add_lit, cell_of_row w _ (off + j) _ e (0, 0) h1]
          have : off + j < vals.length := by omega
          simp [List.getD_eq_getElem?_getD, List.getElem?_eq_getElem this])
        have hkl : ((vals.drop off).take k).length = k := by simp; omega
        have e1 : (List.range k).map (fun j => vals.getD (off + j) undef) = (vals.drop off).take k := by
          apply List.ext_getElem?
          intro j
          simp only [List.getElem?_map, List.getElem?_take, List.getElem?_drop]
          rcases Nat.lt_or_ge j k with hj | hj
          · rw [if_pos hj]
            have : off + j < vals.length := by omega
            simp [hj, List.getD_eq_getElem?_getD, List.getElem?_eq_getElem this]
          · rw [if_neg (by omega)]; simp; omega
        refine ⟨.agg ((vals.drop off).take k).toArray, ?_, .agg _ _ (by rw [hvl, g1]) (fun j d hd => (g2 j d hd).1) (fun j d hd => (g2 j d hd).2)⟩
        subst hr
        simp only [asAddr, loadVar, Sem.run_bind, run_isAggOf hT, run_size hk, Result.andThen_ok, Sem.run_pure, if_true, hcell, e1]
      · cases hb
    · cases hb
  · cases hb
theorem calls_of_codeC {f n t k : Nat} {T : TypeId} {c : Code} (hf : FnC P f n t T k c) {ds : List AV} {r : RV} {cl : Cls} {w : World} (hn : ds.length ≤ n) (vs : List Value) (hv : vs.length = ds.length)
    (hr : ∀ (j : Nat) d, ds[j]? = some d → Rep w (clsM M0 (fun _ => False) cl) (vs.getD j undef) d)
    (h : CodeOk P (Fr.all w) M0 c (St.enter n cl ds) (endC t k r)) :
    Calls P f vs.toArray w fun e w' => ∃ v, e = .returned v ∧ Below w.heap.size w w' ∧ RVok P w' M0 (fun b => b < w.heap.size) v r := by
  rw [enter_eq] at h
  obtain ⟨fn, h1, h2, h3, h4, h5, h6, h7⟩ := hf
  refine (calls_coreG h1 h2 h3 (R := fun v E' s' w' => Below w.heap.size w w' ∧ RVok P w' M0 (fun b => b < w.heap.size) v r) (by simpa using hn) vs (by simpa using hv) wok_nil (fun j d hd => ?_) h (fun e s' a' w' E' hq hs => ?_)).mono fun e w' ⟨v, E', s', he, hR⟩ => ⟨v, he, hR⟩
  · rw [List.getElem?_map, Option.map_eq_some_iff] at hd
    obtain ⟨a, ha, rfl⟩ := hd
    have := hr j a ha
    simp only [SVok, owned_nil]
    exact this
  · have fin : ((s'.s.lookup t).bind (boxV s'.o k)).bind (retOf s'.o) = some r → ∃ v, (results fn a'.tmps).run P w' = .ok v w' ∧ Below w.heap.size w w' ∧ RVok P w' M0 (fun b => b < w.heap.size) v r := fun hb => by
      rw [Option.bind_eq_some_iff] at hb
      obtain ⟨sv', hb, hret⟩ := hb
      rw [Option.bind_eq_some_iff] at hb
      obtain ⟨sv, hl, hb⟩ := hb
      obtain ⟨v, g1, g2⟩ := run_load_box_agg h6 h7 hs.wok (hs.slots t sv hl).2 hb
      refine ⟨v, ?_, hs.wok.below.below, retOf_ok hs.wok g2 hret⟩
      simp [results, h4, Sem.run_bind]
      simpa using g1
    cases e with
    | normal => exact ⟨.inl rfl, fin hq⟩
    | ret => exact ⟨.inr rfl, fin hq⟩
    | exit _ => exact hq.elim
    | goto _ => exact hq.elim
    | panic _ => exact hq.elim
    | outgrown => exact hq.elim
theorem callF_of_codeC {f n t k : Nat} {T : TypeId} {c : Code} (hf : FnC P f n t T k c) {ds : List AV} {r : RV} (hn : ds.length ≤ n)
    (h : ∀ (w0 : Fr) (M0 : Nat → Prop), (∀ b, M0 b → b < w0.w.heap.size) → CodeOk P w0 M0 c (St.enter n .mx ds) (endC t k r)) : CallF P f ds r :=
  ⟨hf.callable, fun w vs hv hr => calls_of_codeC (cl := .mx) hf hn vs hv (fun j d hd => hr j d hd) (h (Fr.all w) (fun b => b < w.heap.size) (fun b hb => hb))⟩
theorem callN_of_codeC {f n t k : Nat} {T : TypeId} {c : Code} (hf : FnC P f n t T k c) {ds : List AV} {r : RV} (hn : ds.length ≤ n)
    (h : ∀ (w0 : Fr) (M0 : Nat → Prop), (∀ b, M0 b → b < w0.w.heap.size) → CodeOk P w0 M0 c (St.enter n .pl ds) (endC t k r)) : CallN P f ds r :=
  ⟨hf.callable, fun w M vs hM hv hr => calls_of_codeC (cl := .pl) hf hn vs hv (fun j d hd => (hr j d hd).weak (fun b hb => Or.elim hb id (fun h => False.elim h))) (h (Fr.all w) M hM)⟩
theorem endC_ret {t k : Nat} {s : St} {r r' : RV} (h : ((s.s.lookup t).bind (boxV s.o k)).bind (retOf s.o) = some r') (hr : r' = r) : endC t k r .ret s := by subst hr; exact h
end
end Go.Am

namespace Go.Wb
open Go.Am
def cptN {α : Type} [Inhabited α] (eq : α → α → Bool) (l : List α) : Nat → List α
  | 0 => []
  | i + 1 => if 0 < i ∧ eq (l.getD i default) (l.getD (i - 1) default) = true then cptN eq l i else cptN eq l i ++ [l.getD i default]
def cpt {α : Type} [Inhabited α] (eq : α → α → Bool) (l : List α) : List α := cptN eq l l.length
section
variable {α : Type} [Inhabited α] {eq : α → α → Bool} {l : List α}
theorem cptN_len (i : Nat) : (cptN eq l i).length ≤ i := by
  induction i with
  | zero => exact Nat.le_refl _
  | succ i ih =>
    rw [cptN]
    split
    · omega
    · rw [List.length_append, List.length_singleton]; omega
theorem cptN_dup {i : Nat} (h0 : 0 < i) (h : eq (l.getD i default) (l.getD (i - 1) default) = true) : cptN eq l (i + 1) = cptN eq l i := by rw [cptN, if_pos ⟨h0, h⟩]
theorem cptN_new {i : Nat} (h : eq (l.getD i default) (l.getD (i - 1) default) = false) : cptN eq l (i + 1) = cptN eq l i ++ [l.getD i default] := by
  rw [cptN, if_neg (fun q => by rw [h] at q; exact absurd q.2 (by decide))]
theorem cptN_one : cptN eq l 1 = [l.getD 0 default] := by rw [cptN, if_neg (by omega)]; rfl
theorem cpt_short (h : l.length < 2) : cpt eq l = l := by
  match l, h with
  | [], _ => rfl
  | [x], _ => exact cptN_one
theorem cptN_take {i : Nat} (hi : i < l.length) (h : cptN eq l i = l.take i) (hn : eq (l.getD i default) (l.getD (i - 1) default) = false) : cptN eq l (i + 1) = l.take (i + 1) := by
  rw [cptN_new hn, h, take_succ' hi]
theorem getD_set_eq {ys : List α} {k : Nat} {v : α} (h : k < ys.length) : (ys.set k v).getD k default = v := by
  rw [List.getD_eq_getElem?_getD, List.getElem?_set_self h]; rfl
theorem getD_set_ne' {ys : List α} {k j : Nat} {v : α} (h : k ≠ j) : (ys.set k v).getD j default = ys.getD j default := by
  rw [List.getD_eq_getElem?_getD, List.getElem?_set_ne h, List.getD_eq_getElem?_getD]
theorem take_set_succ {ys : List α} {k : Nat} {v : α} (h : k < ys.length) : (ys.set k v).take (k + 1) = ys.take k ++ [v] := by
  rw [take_succ' (by simpa using h), getD_set_eq h, List.take_set_of_le (Nat.le_refl _)]
theorem cpt_put {ys : List α} {k q j : Nat} (hk : k < ys.length) (h : cptN eq l (q + j) = ys.take k) (hn : eq (l.getD (q + j) default) (l.getD (q + j - 1) default) = false) : cptN eq l (q + (j + 1)) = (ys.set k (l.getD (q + j) default)).take (k + 1) := by
  rw [← Nat.add_assoc, cptN_new hn, h, take_set_succ hk]
theorem cpt_skip {ys : List α} {k q j : Nat} (h0 : 0 < q + j) (h : cptN eq l (q + j) = ys.take k) (hn : eq (l.getD (q + j) default) (l.getD (q + j - 1) default) = true) : cptN eq l (q + (j + 1)) = ys.take k := by
  rw [← Nat.add_assoc, cptN_dup h0 hn, h]
theorem cpt_fin {f : α → AV} {ys : List α} {X : List AV} {k n : Nat} (hk : k ≤ ys.length) (hn : n = l.length) (h : cptN eq l n = ys.take k) : ((ys.map f).take k ++ X).take k = (cpt eq l).map f := by
  subst hn
  rw [List.take_append_of_le_length (by simp; omega), List.take_take, Nat.min_self, ← List.map_take, ← h]; rfl
theorem cpt_all {n : Nat} (hn : n = l.length) (h : cptN eq l n = l.take n) : cpt eq l = l := by
  subst hn; unfold cpt; rw [h, List.take_length]
end
def altF (x : Rx) : List Rx := if x.kind = 4 then x.kids else [x]
def altL (l : List Rx) : List Rx := l.flatMap altF
def putS (s : List Int) (x : Rx) : List Int := if x.kind = 2 then s ++ x.syms else s
def putK (k : List Rx) (x : Rx) : List Rx := if x.kind = 0 ∨ x.kind = 2 then k else k ++ [x]
def putSs (l : List Rx) : List Int := l.foldl putS []
def putKs (l : List Rx) : List Rx := l.foldl putK []
theorem altL_succ {l : List Rx} {i : Nat} (h : i < l.length) : altL (l.take (i + 1)) = altL (l.take i) ++ altF (l.getD i default) := by
  rw [take_succ' h, altL, List.flatMap_append]; simp [altL]
theorem get_lastm {α : Type} (f : α → AV) (l : List α) (z : AV) : (l.map f ++ [z])[l.length]? = some z := by
  rw [List.getElem?_append_right (by simp)]; simp
theorem set_last {α : Type} {f : α → AV} {l : List α} {z : AV} {v : α} : (l.map f ++ [z]).set l.length (f v) = (l ++ [v]).map f := by
  rw [List.set_append_right _ _ (by simp), List.length_map, Nat.sub_self, List.map_append]; rfl
theorem putS_2 {s : List Int} {x : Rx} (h : x.kind = 2) : putS s x = s ++ x.syms := if_pos h
theorem putS_x {s : List Int} {x : Rx} (h : x.kind ≠ 2) : putS s x = s := if_neg h
theorem putK_0 {k : List Rx} {x : Rx} (h : x.kind = 0 ∨ x.kind = 2) : putK k x = k := if_pos h
theorem putK_x {k : List Rx} {x : Rx} (h : ¬ (x.kind = 0 ∨ x.kind = 2)) : putK k x = k ++ [x] := if_neg h
end Go.Wb

