/-
  Code on abstract states run as a function: control,moves,tests,variables,fields.
-/
import Derived.Test.YtgdehkimfmfofaaGreatJ10
import Derived.Test.YtgdehkimfmfofaaGreatJ11
import Derived.Test.YtgdehkimfmfofaaGreatJ8
set_option linter.unusedVariables false
set_option linter.unusedSectionVars false
set_option linter.unusedSimpArgs false
namespace Go.Am
open Go.RowKit
section
variable {P:Program} {w0:Fr} {M0:Nat→Prop}
theorem pure_nilbox {o:Oper} {ρ:Operand→Option SV} {ob:List (Nat×Ob)} {x:Operand} {id off:Nat} {e:TypeId} {cs:List SV} (ho:o.op=.nilCheck x) (hx:ρ x=some (.pbox id off)) (hl:ob.lookup id=some (.box e cs)):Pure P w0 M0 o ρ ob (.pbox id off) :=
  pure_value fun E w ev hw h=>by
    have hr:=h x _ hx e cs hl
    refine ⟨_,w,by simp only [execOp,ho,hr,Sem.run_pure],.refl _ _,fun e' cs' h'=>rfl⟩
def endOC (t k:Nat) (r:SV) (o':List (Nat×Ob)):Exit→St→Prop
  | .normal,s|.ret,s=>(s.s.lookup t).bind (boxV s.o k)=some r∧∀ id ob,o'.lookup id=some ob→s.o.lookup id=some ob
  | _,_=>False
theorem callO_of_codeC {f n t k:Nat} {T:TypeId} {c:Code} (hf:FnC P f n t T k c) {args:List SV} {o o':List (Nat×Ob)} {r:SV} (hn:args.length≤n)
    (h:∀ (w0:Fr) (M0:Nat→Prop),(∀ b,M0 b→b<w0.w.heap.size)→CodeOk P w0 M0 c (St.enterS n args o) (endOC t k r o')):CallO P f args o r o':=by
  refine ⟨hf.callable,fun w0 M0 E w vs hM0 hw hv hr=>?_⟩
  obtain ⟨fn,h1,h2,h3,h4,h5,h6,h7⟩:=hf
  refine (calls_coreG h1 h2 h3 (R:=fun v E' s' w'=>WOk P w0 M0 E' o' w'∧SVok P M0 w' E' o' v r) hn vs hv hw hr (h w0.plain M0 hM0) (fun e s' a' w' E' hq hs=>?_)).mono fun e w' ⟨v,E',s',he,hR⟩=>⟨v,E',he,hR⟩
  have fin:((s'.s.lookup t).bind (boxV s'.o k)=some r∧∀ id ob,o'.lookup id=some ob→s'.o.lookup id=some ob)→∃ v,(results fn a'.tmps).run P w'=.ok v w'∧WOk P w0 M0 E' o' w'∧SVok P M0 w' E' o' v r:=fun ⟨hb,q2⟩=>by
    rw [Option.bind_eq_some_iff] at hb
    obtain ⟨sv,hl,hb⟩:=hb
    obtain ⟨v,g1,g2⟩:=run_load_box_agg h6 h7 hs.wok (hs.slots t sv hl).2 hb
    refine ⟨v,?_,hs.wok.fewer q2,g2.fewer q2⟩
    simp [results,h4,Sem.run_bind]
    simpa using g1
  cases e with
  | normal=>exact ⟨.inl rfl,fin hq⟩
  | ret=>exact ⟨.inr rfl,fin hq⟩
  | exit _=>exact hq.elim
  | goto _=>exact hq.elim
  | panic _=>exact hq.elim
  | outgrown=>exact hq.elim
theorem endOC_ret {t k:Nat} {r r1:SV} {o' o1:List (Nat×Ob)} {s:St} (h:(s.s.lookup t).bind (boxV s.o k)=some r1) (ho:HasO s o1) (e:r1=r∧o1=o'):endOC t k r o' .ret s:=by
  obtain ⟨rfl,rfl⟩:=e
  exact ⟨h,ho.out⟩
def FnC2 (P : Program) (f : FuncId) (n t : Nat) (T : TypeId) (k u : Nat) (c : Code) : Prop := ∃ fn, P.funcs[f]? = some fn ∧ fn.body = some c ∧ fn.ntmps = n ∧ fn.results = #[.cell t T, .tmp u] ∧ (fn.name == "runtime.NumGoroutine") = false ∧ isAggOf P T = some true ∧ szOf P T = some k
theorem FnC2.callable {f n t k u:Nat} {T:TypeId} {c:Code} (h:FnC2 P f n t T k u c):Callable P f:=by
  obtain ⟨fn,h1,h2,_,_,h5,_⟩:=h
  exact ⟨fn,h1,h5,by rw [h2];rfl⟩
def endC2 (t k u:Nat) (r r':AV):Exit→St→Prop
  | .normal,s|.ret,s=>(∃ q,((s.s.lookup t).bind (boxV s.o k)).bind (retOf s.o)=some q∧q.data=r)∧(∃ q,(s.s.lookup u).bind (retOf s.o)=some q∧q.data=r')
  | _,_=>False
theorem callF_of_codeC2 {f n t k u : Nat} {T : TypeId} {c : Code} (hf : FnC2 P f n t T k u c) {ds : List AV} {r r' : AV} (hn : ds.length ≤ n)
    (h:∀ (w0:Fr) (M0:Nat→Prop),(∀ b,M0 b→b<w0.w.heap.size)→CodeOk P w0 M0 c (St.enter n .mx ds) (endC2 t k u r r')):CallF P f ds (.p (.tup [r,r'])):=by
  refine ⟨hf.callable,fun w vs hv hr=>?_⟩
  have h0:=h (Fr.all w) (fun b=>b<w.heap.size) (fun b hb=>hb)
  rw [enter_eq] at h0
  obtain ⟨fn,h1,h2,h3,h4,h5,h6,h7⟩:=hf
  refine (calls_coreG h1 h2 h3 (R:=fun v E' s' w'=>Below w.heap.size w w'∧RVok P w' (fun b=>b<w.heap.size) (fun b=>b<w.heap.size) v (.p (.tup [r,r']))) (by simpa using hn) vs (by simpa using hv) wok_nil (fun j d hd=>?_) h0 (fun e s' a' w' E' hq hs=>?_)).mono fun e w' ⟨v,E',s',he,hR⟩=>⟨v,he,hR⟩
  · rw [List.getElem?_map, Option.map_eq_some_iff] at hd
    obtain ⟨a,ha,rfl⟩:=hd
    have:=hr j a ha
    simp only [SVok,owned_nil]
    exact this
  · have fin : ((∃ q, ((s'.s.lookup t).bind (boxV s'.o k)).bind (retOf s'.o) = some q ∧ q.data = r) ∧ (∃ q, (s'.s.lookup u).bind (retOf s'.o) = some q ∧ q.data = r')) →
        ∃ v,(results fn a'.tmps).run P w'=.ok v w'∧Below w.heap.size w w'∧RVok P w' (fun b=>b<w.heap.size) (fun b=>b<w.heap.size) v (.p (.tup [r,r'])):=by
      rintro ⟨⟨q1,hb,hd1⟩,⟨q2,hu,hd2⟩⟩
      rw [Option.bind_eq_some_iff] at hb
      obtain ⟨sv',hb,hret⟩:=hb
      rw [Option.bind_eq_some_iff] at hb
      obtain ⟨sv,hl,hb⟩:=hb
      rw [Option.bind_eq_some_iff] at hu
      obtain ⟨su,hlu,hretu⟩:=hu
      obtain ⟨v,g1,g2⟩:=run_load_box_agg h6 h7 hs.wok (hs.slots t sv hl).2 hb
      have r1:=(retOf_ok hs.wok g2 hret).rep (fun b hb=>hb)
      have r2:=(retOf_ok hs.wok (hs.slots u su hlu).2 hretu).rep (fun b hb=>hb)
      rw [hd1] at r1;rw [hd2] at r2
      refine ⟨.tuple #[v,a'.tmps.getD u undef],?_,hs.wok.below.below,.tup [v,a'.tmps.getD u undef] [r,r'] rfl (fun j d hd=>by
        match j,hd with
        | 0,hd=>simp at hd;subst hd;exact r1
        | 1,hd=>simp at hd;subst hd;exact r2
        | j+2,hd=>simp at hd)⟩
      have g1':((Sem.run P (asAddr (a'.tmps[t]?.getD undef)) w').andThen fun x w=>Sem.run P (loadVar T x) w)=.ok v w':=by simpa using g1
      simp [results,h4,Sem.run_bind]
      revert g1'
      cases Sem.run P (asAddr (a'.tmps[t]?.getD undef)) w' with
      | ok a w2=>intro g;simp only [Result.andThen_ok] at g ⊢;rw [g];rfl
      | _=>intro g;exact absurd g (by simp [Result.andThen])
    cases e with
    | normal=>exact ⟨.inl rfl,fin hq⟩
    | ret=>exact ⟨.inr rfl,fin hq⟩
    | exit _=>exact hq.elim
    | goto _=>exact hq.elim
    | panic _=>exact hq.elim
    | outgrown=>exact hq.elim
theorem endC2_ret {t k u:Nat} {r r':AV} {s:St} {q q':RV} (h:((s.s.lookup t).bind (boxV s.o k)).bind (retOf s.o)=some q) (h':(s.s.lookup u).bind (retOf s.o)=some q') (e:q.data=r∧q'.data=r'):endC2 t k u r r' .ret s:=⟨⟨q,h,e.1⟩,⟨q',h',e.2⟩⟩
end
end Go.Am

namespace Go.Am
open Go.RowKit
section
variable {P:Program} {w0:Fr} {M0:Nat→Prop}
def Fn3 (P : Program) (f : FuncId) (n t u v : Nat) (c : Code) : Prop := ∃ fn, P.funcs[f]? = some fn ∧ fn.body = some c ∧ fn.ntmps = n ∧ fn.results = #[.tmp t, .tmp u, .tmp v] ∧ (fn.name == "runtime.NumGoroutine") = false
theorem Fn3.callable {f n t u v:Nat} {c:Code} (h:Fn3 P f n t u v c):Callable P f:=by
  obtain ⟨fn,h1,h2,_,_,h5⟩:=h
  exact ⟨fn,h1,h5,by rw [h2];rfl⟩
def endQ3 (t u v:Nat) (r r' r'':AV):Exit→St→Prop
  | .normal,s|.ret,s=>(∃ q,(s.s.lookup t).bind (retOf s.o)=some q∧q.data=r)∧(∃ q,(s.s.lookup u).bind (retOf s.o)=some q∧q.data=r')∧(∃ q,(s.s.lookup v).bind (retOf s.o)=some q∧q.data=r'')
  | _,_=>False
theorem callF_of_code3 {f n t u v : Nat} {c : Code} (hf : Fn3 P f n t u v c) {ds : List AV} {r r' r'' : AV} (hn : ds.length ≤ n)
    (h:∀ (w0:Fr) (M0:Nat→Prop),(∀ b,M0 b→b<w0.w.heap.size)→CodeOk P w0 M0 c (St.enter n .mx ds) (endQ3 t u v r r' r'')):CallF P f ds (.p (.tup [r,r',r''])):=by
  refine ⟨hf.callable,fun w vs hv hr=>?_⟩
  have h0:=h (Fr.all w) (fun b=>b<w.heap.size) (fun b hb=>hb)
  rw [enter_eq] at h0
  obtain ⟨fn,h1,h2,h3,h4,h5⟩:=hf
  refine (calls_coreG h1 h2 h3 (R:=fun v E' s' w'=>Below w.heap.size w w'∧RVok P w' (fun b=>b<w.heap.size) (fun b=>b<w.heap.size) v (.p (.tup [r,r',r'']))) (by simpa using hn) vs (by simpa using hv) wok_nil (fun j d hd=>?_) h0 (fun e s' a' w' E' hq hs=>?_)).mono fun e w' ⟨v,E',s',he,hR⟩=>⟨v,he,hR⟩
  · rw [List.getElem?_map, Option.map_eq_some_iff] at hd
    obtain ⟨a,ha,rfl⟩:=hd
    have:=hr j a ha
    simp only [SVok,owned_nil]
    exact this
  · have fin : ((∃ q, (s'.s.lookup t).bind (retOf s'.o) = some q ∧ q.data = r) ∧ (∃ q, (s'.s.lookup u).bind (retOf s'.o) = some q ∧ q.data = r') ∧ (∃ q, (s'.s.lookup v).bind (retOf s'.o) = some q ∧ q.data = r'')) →
        ∃ v,(results fn a'.tmps).run P w'=.ok v w'∧Below w.heap.size w w'∧RVok P w' (fun b=>b<w.heap.size) (fun b=>b<w.heap.size) v (.p (.tup [r,r',r''])):=by
      rintro ⟨⟨q1,hq1,hd1⟩,⟨q2,hq2,hd2⟩,⟨q3,hq3,hd3⟩⟩
      have one:∀ x q,(s'.s.lookup x).bind (retOf s'.o)=some q→Rep w' (fun b=>b<w.heap.size) (a'.tmps.getD x undef) q.data:=by
        intro x q hx
        cases hl:s'.s.lookup x with
        | none=>rw [hl] at hx;cases hx
        | some sv =>
          rw [hl] at hx
          exact (retOf_ok hs.wok (hs.slots x sv hl).2 hx).rep (fun b hb=>hb)
      have r1:=one t q1 hq1
      have r2:=one u q2 hq2
      have r3:=one v q3 hq3
      rw [hd1] at r1;rw [hd2] at r2;rw [hd3] at r3
      refine ⟨.tuple #[a'.tmps.getD t undef,a'.tmps.getD u undef,a'.tmps.getD v undef],by simp [results,h4],hs.wok.below.below,.tup [a'.tmps.getD t undef,a'.tmps.getD u undef,a'.tmps.getD v undef] [r,r',r''] rfl (fun j d hd=>by
        match j,hd with
        | 0,hd=>simp at hd;subst hd;exact r1
        | 1,hd=>simp at hd;subst hd;exact r2
        | 2,hd=>simp at hd;subst hd;exact r3
        | j+3,hd=>simp at hd)⟩
    cases e with
    | normal=>exact ⟨.inl rfl,fin hq⟩
    | ret=>exact ⟨.inr rfl,fin hq⟩
    | exit _=>exact hq.elim
    | goto _=>exact hq.elim
    | panic _=>exact hq.elim
    | outgrown=>exact hq.elim
theorem end3_ret {t u v:Nat} {r r' r'':AV} {s:St} {q q' q'':RV} (h:(s.s.lookup t).bind (retOf s.o)=some q) (h':(s.s.lookup u).bind (retOf s.o)=some q') (h'':(s.s.lookup v).bind (retOf s.o)=some q'') (e:q.data=r∧q'.data=r'∧q''.data=r''):endQ3 t u v r r' r'' .ret s:=⟨⟨q,h,e.1⟩,⟨q',h',e.2.1⟩,⟨q'',h'',e.2.2⟩⟩
end
end Go.Am

namespace Go.Am
open Go.RowKit
def CallW (P : Program) (f : FuncId) (ds : List AV) (r : RV) : Prop :=
  Callable P f∧∀ (w:World) (vs:List Value),vs.length=ds.length→(∀ (j:Nat) d,ds[j]?=some d→Rep w (fun _=>False) (vs.getD j undef) d) →
    Calls P f vs.toArray w fun e w'=>∃ v,e=.returned v∧BelowD False w.heap.size w w'∧RVok P w' (fun b=>b<w.heap.size) (fun b=>b<w.heap.size) v r
section
variable {P:Program} {w0:Fr} {M0:Nat→Prop}
theorem callW_of_code {f n t:Nat} {c:Code} (hf:Fn1 P f n t c) {ds:List AV} {r:RV} (hn:ds.length≤n)
    (h:∀ (w0:Fr) (M0:Nat→Prop),(∀ b,M0 b→b<w0.w.heap.size)→¬ w0.dr→CodeOk P w0 M0 c (St.enter n .mx ds) (endQ t r)):CallW P f ds r :=
  ⟨hf.callable,fun w vs hv hr=>calls_of_code (D:=False) (cl:=.mx) hf hn vs hv (fun j d hd=>hr j d hd) (h (Fr.allD False w) (fun b=>b<w.heap.size) (fun b hb=>hb) (fun h=>h))⟩
theorem pure_callW {o : Oper} {ρ : Operand → Option SV} {ob : List (Nat × Ob)} {cx : Operand} {args : Array Operand} {ats : Array TypeId} {c : Cls} {f : FuncId} {caps ds : List AV} {r : RV} (hdr : ¬ w0.dr)
    (ho:o.op=.call { callee:=.value cx,args:=args,argTypes:=ats }) (hc:ρ cx=some (.v c (.clo f caps))) (ha:viewAll ρ ob args.toList=some ds) (h:CallW P f (ds++caps) r)
    (hM0:∀ b,M0 b→b<w0.w.heap.size):Pure P w0 M0 o ρ ob (.v .pl r.data):=by
  intro E w ev hw hx
  have hcv:=hx cx _ hc
  simp only [SVok] at hcv
  generalize hq:ev cx=q at hcv
  cases hcv with
  | clo _ vs _ hn hr =>
    have hv:=viewAll_ok hw hx _ _ ha
    unfold Yield
    rw [run_call ho hq h.1]
    refine ⟨rfl,?_⟩
    have hall:=h.2 w (args.toList.map ev++vs) (by simp [hv.1,hn]) (fun j d hd=>?_)
    · have e1 : (args.toList.map ev ++ vs).toArray = args.map ev ++ vs.toArray := by apply Array.ext' ; simp
      rw [e1] at hall
      refine hall.mono fun e w' ⟨v,he,hb,hrv⟩=>⟨v,he,hb.less (fun d=>hdr d),?_⟩
      have hrep:=hrv.rep (fun b hb=>hb)
      refine hrep.weak fun b hb'=>?_
      rcases hb' with hb'|hb'
      · have:=hM0 b hb';have:=hw.below.size;omega
      · exact (hw.owned_range hb').2
    · rw [List.getD_eq_getElem?_getD]
      rcases Nat.lt_or_ge j ds.length with hlt|hge
      · rw [List.getElem?_append_left hlt] at hd
        have:=hv.2 j d hd
        rw [List.getElem?_append_left (by simp [hv.1];omega)]
        rwa [List.getD_eq_getElem?_getD] at this
      · rw [List.getElem?_append_right hge] at hd
        have:=hr _ d hd
        rw [List.getElem?_append_right (by simp [hv.1];omega)]
        simp only [List.length_map,hv.1]
        rw [List.getD_eq_getElem?_getD] at this
        exact this.weak (fun b hb=>hb.elim)
theorem CallW.use {f:FuncId} {ds:List AV} {r:RV} (h:CallW P f ds r) {w:World} {vs:List Value} (hr:Reps w (fun _=>False) vs ds) :
    Calls P f vs.toArray w fun e w'=>∃ v,e=.returned v∧BelowD False w.heap.size w w'∧RVok P w' (fun b=>b<w.heap.size) (fun b=>b<w.heap.size) v r :=
  h.2 w vs hr.get.1 hr.get.2
end
end Go.Am

namespace Go.Am
open Go.RowKit

structure TyF where
  sz:Option Nat
  ag:Option Bool
  ze:Option (List Value)
  pl:Option (List (Nat×Nat))
  fd:List (Option (Nat×Nat×Bool))
def rowT (P:Program) (k:TypeId):TyF:=⟨szOf P k,isAggOf P k,zeroOf P k,placesOf P k,(List.range 8).map (fldOf P k)⟩
def tyAt (T:List (Nat×TyF)) (k:TypeId):TyF:=match T.lookup k with
  | some r=>r
  | none=>⟨none,none,none,none,[]⟩
def TabOk (P:Program) (T:List (Nat×TyF)):Prop:=(T.map fun p=>(p.1,rowT P p.1))=T
theorem lookup_in {α:Type} {k:Nat} {r:α}:∀ {l:List (Nat×α)},l.lookup k=some r→(k,r)∈l
  | [],h=>by cases h
  | (u, e) :: l, h => by
    rw [lookup_cons'] at h
    split at h
    · rename_i hu;subst hu;cases h;exact List.mem_cons_self ..
    · exact List.mem_cons_of_mem _ (lookup_in h)
theorem tyAt_ok {P:Program} {T:List (Nat×TyF)} (h:TabOk P T) (k:TypeId):tyAt T k=⟨none,none,none,none,[]⟩∨tyAt T k=rowT P k:=by
  unfold tyAt
  cases hl:T.lookup k with
  | none=>exact .inl rfl
  | some r =>
    right
    have hm:=lookup_in hl
    rw [← h] at hm
    obtain ⟨p,_,hp⟩:=List.mem_map.1 hm
    cases hp;rfl
section tab
variable {P:Program} {T:List (Nat×TyF)} (h:TabOk P T) {k:TypeId}
include h
theorem tab_sz {n:Nat} (e:(tyAt T k).sz=some n):szOf P k=some n:=by
  rcases tyAt_ok h k with q|q<;>rw [q] at e
  · cases e
  · exact e
theorem tab_ag {b:Bool} (e:(tyAt T k).ag=some b):isAggOf P k=some b:=by
  rcases tyAt_ok h k with q|q<;>rw [q] at e
  · cases e
  · exact e
theorem tab_ze {l:List Value} (e:(tyAt T k).ze=some l):zeroOf P k=some l:=by
  rcases tyAt_ok h k with q|q<;>rw [q] at e
  · cases e
  · exact e
theorem tab_pl {l:List (Nat×Nat)} (e:(tyAt T k).pl=some l):placesOf P k=some l:=by
  rcases tyAt_ok h k with q|q<;>rw [q] at e
  · cases e
  · exact e
theorem tab_fd {f:Nat} {x:Nat×Nat×Bool} (e:(tyAt T k).fd[f]?=some (some x)):fldOf P k f=some x:=by
  rcases tyAt_ok h k with q|q<;>rw [q] at e
  · simp at e
  · simp only [rowT, List.getElem?_map] at e
    rcases Nat.lt_or_ge f 8 with h8|h8
    · rw [List.getElem?_range h8] at e;simpa using e
    · rw [List.getElem?_eq_none (by simpa using h8)] at e;cases e
end tab

/- Values forced, so that a run ends in plain lists. -/
section force
variable {R:Type}
def fV (v : SV) (k : SV → Option R) : Option R := match v with
  | .v c d => match c with
    | .pl=>k (.v .pl d)
    | .mx=>k (.v .mx d)
    | .vw=>k (.v .vw d)
  | .own i=>k (.own i)
  | .pel a b c=>k (.pel a b c)
  | .pbox a b=>k (.pbox a b)
  | .omap a=>k (.omap a)
  | .vsl a b c=>k (.vsl a b c)
  | .fn f l=>k (.fn f l)
  | .hid f l=>k (.hid f l)
  | .nst a=>k (.nst a)
  | .nel a b=>k (.nel a b)
  | .dead=>k .dead
theorem fV_eq (v:SV) (k:SV→Option R):fV v k=k v:=by
  cases v with
  | v c d=>cases c<;>rfl
  | _=>rfl
def fVs:List SV→(List SV→Option R)→Option R
  | [],k=>k []
  | v :: r,k=>fV v fun v=>fVs r fun r=>k (v :: r)
theorem fVs_eq:∀ (l:List SV) (k:List SV→Option R),fVs l k=k l
  | [],k=>rfl
  | v :: r,k=>by unfold fVs;rw [fV_eq,fVs_eq r]
def fS:List (Nat×SV)→(List (Nat×SV)→Option R)→Option R
  | [],k=>k []
  | (t,v) :: r,k=>fV v fun v=>fS r fun r=>k ((t,v) :: r)
theorem fS_eq:∀ (l:List (Nat×SV)) (k:List (Nat×SV)→Option R),fS l k=k l
  | [],k=>rfl
  | (t,v) :: r,k=>by unfold fS;rw [fV_eq,fS_eq r]
def fN (ln:Option (Nat×Lend)) (k:Option (Nat×Lend)→Option R):Option R:=match ln with
  | none=>k none
  | some (j,.no)=>k (some (j,.no))
  | some (j,.arr u)=>k (some (j,.arr u))
  | some (j,.map u)=>k (some (j,.map u))
theorem fN_eq (ln:Option (Nat×Lend)) (k:Option (Nat×Lend)→Option R):fN ln k=k ln:=by
  cases ln with
  | none=>rfl
  | some p=>obtain ⟨j,l⟩:=p;cases l<;>rfl
def fO : List (Nat × Ob) → (List (Nat × Ob) → Option R) → Option R
  | [],k=>k []
  | (t, ob) :: r, k => match ob with
    | .box e cs=>fVs cs fun cs=>fO r fun r=>k ((t,.box e cs) :: r)
    | .arr e xs=>fO r fun r=>k ((t,.arr e xs) :: r)
    | .mp ks vs=>fO r fun r=>k ((t,.mp ks vs) :: r)
    | .nar e cs ln=>fN ln fun ln=>fO r fun r=>k ((t,.nar e cs ln) :: r)
    | .nmp ks cs ln=>fN ln fun ln=>fO r fun r=>k ((t,.nmp ks cs ln) :: r)
theorem fO_eq:∀ (l:List (Nat×Ob)) (k:List (Nat×Ob)→Option R),fO l k=k l
  | [],k=>rfl
  | (t, ob) :: r, k => by
    unfold fO
    cases ob with
    | box e cs=>simp only [fVs_eq];rw [fO_eq r]
    | arr e xs=>simp only [];rw [fO_eq r]
    | mp ks vs=>simp only [];rw [fO_eq r]
    | nar e cs ln=>simp only [fN_eq];rw [fO_eq r]
    | nmp ks cs ln=>simp only [fN_eq];rw [fO_eq r]
def insK (t:Nat) (d:SV):List (Nat×SV)→(List (Nat×SV)→Option R)→Option R
  | [],k=>k [(t,d)]
  | (u,e) :: r,k=>bif Nat.blt t u then k ((t,d) :: (u,e) :: r) else bif Nat.beq t u then k ((t,d) :: r) else insK t d r fun r=>k ((u,e) :: r)
theorem insK_eq (t : Nat) (d : SV) : ∀ (l : List (Nat × SV)) (k : List (Nat × SV) → Option R), insK t d l k = k (ins t d l)
  | [],k=>rfl
  | (u, e) :: r, k => by
    unfold insK ins
    by_cases h:t<u
    · have : Nat.blt t u = true := by simpa using h
      rw [this,if_pos h];rfl
    · have h1 : Nat.blt t u = false := by
        cases hq:Nat.blt t u
        · rfl
        · exact absurd (by simpa using hq) h
      rw [h1,if_neg h]
      by_cases h2:t=u
      · subst h2;rw [if_pos rfl,show Nat.beq t t=true by simp];rfl
      · rw [if_neg h2, show Nat.beq t u = false by
          cases hq:Nat.beq t u
          · rfl
          · exact absurd (Nat.eq_of_beq_eq_true hq) h2]
        simp only [cond_false]
        rw [insK_eq t d r]
def fB (ob:Ob) (k:Ob→Option R):Option R:=match ob with
  | .box e cs=>fVs cs fun cs=>k (.box e cs)
  | .arr e xs=>k (.arr e xs)
  | .mp ks vs=>k (.mp ks vs)
  | .nar e cs ln=>fN ln fun ln=>k (.nar e cs ln)
  | .nmp ks cs ln=>fN ln fun ln=>k (.nmp ks cs ln)
theorem fB_eq (ob:Ob) (k:Ob→Option R):fB ob k=k ob:=by
  cases ob with
  | box e cs=>exact fVs_eq _ _
  | nar e cs ln=>exact fN_eq ln fun ln=>k (.nar e cs ln)
  | nmp ks cs ln=>exact fN_eq ln fun ln=>k (.nmp ks cs ln)
  | _=>rfl
def pickK {α : Type} (f : α → (α → Option R) → Option R) : List Nat → List (Nat × α) → (List (Nat × α) → Option R) → Option R
  | [],_,k=>k []
  | t :: ts, l, k => match l.lookup t with
    | some d=>f d fun d=>pickK f ts l fun r=>k ((t,d) :: r)
    | none=>none
theorem pickK_ok {α : Type} {f : α → (α → Option R) → Option R} (hf : ∀ d k, f d k = k d) : ∀ (ts : List Nat) (l : List (Nat × α)) (k : List (Nat × α) → Option R) (r : R), pickK f ts l k = some r → ∃ l', k l' = some r ∧ ∀ x ∈ l', l.lookup x.1 = some x.2
  | [],_,k,r,h=>⟨[],h,fun x hx=>by cases hx⟩
  | t :: ts, l, k, r, h => by
    unfold pickK at h
    cases hl:l.lookup t with
    | none=>rw [hl] at h;cases h
    | some d =>
      rw [hl] at h
      simp only [hf] at h
      obtain ⟨l',h1,h2⟩:=pickK_ok hf ts l _ r h
      exact ⟨_,h1,fun x hx=>by
        rcases List.mem_cons.1 hx with rfl|hx
        · exact hl
        · exact h2 x hx⟩
end force
theorem has_of_all {s:St}:∀ {l:List (Nat×SV)},(∀ x∈l,s.s.lookup x.1=some x.2)→Has s l
  | [],_=>trivial
  | (t,d) :: r,h=>⟨h (t,d) (List.mem_cons_self ..),has_of_all fun x hx=>h x (List.mem_cons_of_mem _ hx)⟩
theorem hasO_of_all {s:St}:∀ {l:List (Nat×Ob)},(∀ x∈l,s.o.lookup x.1=some x.2)→HasO s l
  | [],_=>trivial
  | (t,d) :: r,h=>⟨h (t,d) (List.mem_cons_self ..),hasO_of_all fun x hx=>h x (List.mem_cons_of_mem _ hx)⟩

/- One operation. -/
def i64 (ρ:Operand→Option SV) (x:Operand):Option Int:=match scal ρ x with
  | some (.int .i64 a)=>some a
  | _=>none
def bl (b:Bool):Option SV:=some (.v .pl (.sc (.bool b)))
def xcmp (op:BinOp) (a b:Int):Option SV:=match op with
  | .lss=>bl (decide (a<b))
  | .leq=>bl (decide (a≤b))
  | .gtr=>bl (decide (b<a))
  | .geq=>bl (decide (b≤a))
  | .eql=>bl (decide (a=b))
  | .neq=>bl (!decide (a=b))
  | _=>none
def xpure (T : List (Nat × TyF)) (o : Oper) (ρ : Operand → Option SV) (ob : List (Nat × Ob)) : Option SV := match o.op with
  | .move x=>ρ x
  | .assign x=>ρ x
  | .pick c x y => match scal ρ c with
    | some (.bool true)=>ρ x
    | some (.bool false)=>ρ y
    | _=>none
  | .binOp op t x y t' => match i64 ρ x, i64 ρ y with
    | some a,some b=>xcmp op a b
    | _,_=>none
  | .unOp .not t x => match scal ρ x with
    | some (.bool q)=>bl (!q)
    | _=>none
  | .load t x => match ρ x with
    | some (.v c (.pc cs off)) => match (tyAt T t).ag with
      | some false => match cs[off]? with
        | some el=>some (.v c el)
        | none=>none
      | some true => match (tyAt T t).sz with
        | some k=>bif Nat.ble (off+k) cs.length then some (.v c (.agg ((cs.drop off).take k))) else none
        | none=>none
      | none=>none
    | some (.pbox id off) => match ob.lookup id with
      | some (.box e cs) => match (tyAt T t).ag with
        | some false=>cs[off]?
        | some true => match (tyAt T t).sz with
          | some k => bif Nat.ble (off + k) cs.length then match cellsView ob ((cs.drop off).take k) with
            | some (c,az)=>some (.v c (.agg az))
            | none=>none else none
          | none=>none
        | none=>none
      | _=>none
    | _=>none
  | .fieldAddr t x f => match (tyAt T t).fd[f]? with
    | some (some (fo, fk + 1, fg)) => match ρ x with
      | some (.v c (.pc cs off))=>some (.v c (.pc cs (off+fo)))
      | some (.pbox id off) => match ob.lookup id with
        | some (.box e cs)=>some (.pbox id (off+fo))
        | _=>none
      | _=>none
    | _=>none
  | .nilCheck x => match ρ x with
    | some (.pbox id off) => match ob.lookup id with
      | some (.box e cs)=>some (.pbox id off)
      | _=>none
    | _=>none
  | .build t parts => match (tyAt T t).pl with
    | some pl => match (tyAt T t).ze with
      | some zs => bif zs.all Value.oneCell' then match partsView ρ ob parts.toList with
        | some (c, ps) => match fillA pl (zs.map .sc) ps with
          | some r=>some (.v c (.agg r))
          | none=>none
        | none=>none else none
      | none=>none
    | none=>none
  | .extract x i => match ρ x with
    | some (.v c (.tup vs)) => match vs[i]? with
      | some el=>some (.v c el)
      | none=>none
    | _=>none
  | .field t x f => match (tyAt T t).fd[f]? with
    | some (some (fo, fk + 1, false)) => match viewAt ρ ob x with
      | some (c, .agg az) => match az[fo]? with
        | some a=>some (.v c a)
        | none=>none
      | _=>none
    | _=>none
  | _=>none
def notVw:Cls→Bool
  | .vw=>false
  | _=>true
def xstep (T : List (Nat × TyF)) (o : Oper) (s : St) : Option St := match o.op with
  | .alloc t => match o.dst with
    | some d => match (tyAt T t).ze with
      | some zs=>bif Nat.blt d s.n&&(Nat.blt d 1000000&&(Nodup s.s&&zs.all Value.oneCell')) then some ((s.upd true d (.box t (zs.map fun z=>.v .pl (.sc z)))).put d (.pbox d 0)) else none
      | none=>none
    | none=>none
  | .store t x y => match o.dst with
    | some _=>none
    | none => match s.ev x with
      | some (.pbox id off) => match s.o.lookup id with
        | some (.box e cs) => match (tyAt T t).sz with
          | some k => match s.ev y with
            | some (.v c a)=>bif notVw c&&(Nodup s.s&&(notTup a&&(Nat.beq (boxCells (.v c a)).length k&&Nat.ble (off+k) cs.length))) then some (s.upd false id (.box e (spl (keepC id cs) off (boxCells (.v c a))))) else none
            | some (.own j) => match s.o.lookup j with
              | some (.arr e' xs)=>bif Nodup s.s&&(Nat.beq k 1&&Nat.ble (off+1) cs.length) then some (s.upd false id (.box e (spl (keepC id cs) off [.own j]))) else none
              | _=>none
            | _=>none
          | none=>none
        | _=>none
      | _=>none
  | _=>none
def xop {R : Type} (T : List (Nat × TyF)) (o : Oper) (s : St) (k : St → Option R) : Option R := match s with
  | ⟨m, l, ob⟩ => match xpure T o (St.ev ⟨m, l, ob⟩) ob with
    | some d => match o.dst with
      | some t=>bif Nat.blt t m then fV d fun d=>insK t d l fun l=>k ⟨m,l,ob⟩ else none
      | none=>none
    | none => match xstep T o ⟨m, l, ob⟩ with
      | some s'=>fS s'.s fun l=>fO s'.o fun ob=>k ⟨m,l,ob⟩
      | none=>none

section
variable {P:Program} {w0:Fr} {M0:Nat→Prop} {T:List (Nat×TyF)} {o:Oper} {ρ:Operand→Option SV} {ob:List (Nat×Ob)} {d:SV}
theorem i64_ok {x:Operand} {a:Int} (h:i64 ρ x=some a):scal ρ x=some (.int .i64 a):=by
  unfold i64 at h
  split at h
  · rename_i b hb;cases h;exact hb
  · cases h
theorem xpure_ok (hT : TabOk P T) (h : xpure T o ρ ob = some d) : Pure P w0 M0 o ρ ob d := by
  unfold xpure at h
  split at h
  · exact pure_move ‹_› h
  · exact pure_assign ‹_› h
  · split at h
    · exact pure_pick (z:=true) ‹_› ‹_› h
    · exact pure_pick (z:=false) ‹_› ‹_› h
    · cases h
  · split at h
    · rename_i a b ha hb
      have ha:=i64_ok ha
      have hb:=i64_ok hb
      unfold xcmp bl at h
      split at h<;>cases h
      · exact pure_lss ‹_› ha hb
      · exact pure_leq ‹_› ha hb
      · exact pure_gtr ‹_› ha hb
      · exact pure_geq ‹_› ha hb
      · exact pure_eql ‹_› ha hb
      · exact pure_neq ‹_› ha hb
    · cases h
  · split at h
    · cases h;exact pure_not ‹_› ‹_›
    · cases h
  · split at h
    · split at h
      · split at h
        · cases h;exact pure_load ‹_› (tab_ag hT ‹_›) ‹_› ‹_›
        · cases h
      · split at h
        · rename_i k hk
          cases hb:Nat.ble (_+k) _<;>rw [hb] at h<;>simp only [cond_true,cond_false] at h<;>cases h
          exact pure_load_agg ‹_› (tab_ag hT ‹_›) (tab_sz hT hk) ‹_› (Nat.le_of_ble_eq_true hb)
        · cases h
      · cases h
    · split at h
      · split at h
        · exact pure_load_box ‹_› (tab_ag hT ‹_›) ‹_› ‹_› h
        · split at h
          · rename_i k hk
            cases hb:Nat.ble (_+k) _<;>rw [hb] at h<;>simp only [cond_true,cond_false] at h
            · cases h
            · split at h
              · cases h;exact pure_load_box_agg ‹_› (tab_ag hT ‹_›) (tab_sz hT hk) ‹_› ‹_› hb ‹_›
              · cases h
          · cases h
        · cases h
      · cases h
    · cases h
  · split at h
    · split at h
      · cases h;exact pure_field ‹_› (tab_fd hT ‹_›) ‹_›
      · split at h
        · cases h;exact pure_field_box ‹_› (tab_fd hT ‹_›) ‹_› ‹_›
        · cases h
      · cases h
    · cases h
  · split at h
    · split at h
      · cases h;exact pure_nilbox ‹_› ‹_› ‹_›
      · cases h
    · cases h
  · split at h
    · split at h
      · rename_i zs hz
        cases hb:zs.all Value.oneCell'<;>rw [hb] at h<;>simp only [cond_true,cond_false] at h
        · cases h
        · split at h
          · split at h
            · cases h;exact pure_build ‹_› (tab_pl hT ‹_›) (tab_ze hT hz) hb ‹_› ‹_›
            · cases h
          · cases h
      · cases h
    · cases h
  · split at h
    · split at h
      · cases h;exact pure_extract ‹_› ‹_› ‹_›
      · cases h
    · cases h
  · split at h
    · split at h
      · split at h
        · cases h;exact pure_fieldv ‹_› (tab_fd hT ‹_›) ‹_› ‹_›
        · cases h
      · cases h
    · cases h
  · cases h
theorem xstep_ok {s s' : St} (hT : TabOk P T) (hM0 : ∀ b, M0 b → b < w0.w.heap.size) (h : xstep T o s = some s') : Step P w0 M0 o s s' ∧ s'.n = s.n := by
  unfold xstep at h
  split at h
  · split at h
    · split at h
      · rename_i t _ d hd _ zs hz
        cases hb:Nat.blt d s.n&&(Nat.blt d 1000000&&(Nodup s.s&&zs.all Value.oneCell'))<;>rw [hb] at h<;>simp only [cond_true,cond_false] at h<;>cases h
        simp only [Bool.and_eq_true] at hb
        obtain ⟨b1,b2,b3,b4⟩:=hb
        exact ⟨step_alloc ‹_› hd b1 b2 b3 (tab_ze hT hz) b4 hM0,rfl⟩
      · cases h
    · cases h
  · split at h
    · cases h
    · split at h
      · split at h
        · split at h
          · rename_i k hk
            split at h
            · rename_i c a hy
              cases hb:notVw c&&(Nodup s.s&&(notTup a&&(Nat.beq (boxCells (.v c a)).length k&&Nat.ble (_+k) _)))<;>rw [hb] at h<;>simp only [cond_true,cond_false] at h<;>cases h
              simp only [Bool.and_eq_true] at hb
              obtain ⟨b0,b1,b2,b3,b4⟩:=hb
              exact ⟨step_store_box ‹_› ‹_› b1 (tab_sz hT hk) ‹_› ‹_› hy b2 (by rintro rfl;cases b0) (Nat.eq_of_beq_eq_true b3) b4 hM0,rfl⟩
            · split at h
              · cases hb : Nodup s.s && (Nat.beq k 1 && Nat.ble (_ + 1) _) <;> rw [hb] at h <;> simp only [cond_true, cond_false] at h <;> cases h
                simp only [Bool.and_eq_true] at hb
                obtain ⟨b1,b2,b3⟩:=hb
                have:=Nat.eq_of_beq_eq_true b2
                subst this
                exact ⟨step_store_box_own ‹_› ‹_› b1 (tab_sz hT hk) ‹_› ‹_› ‹_› ‹_› b3 hM0,rfl⟩
              · cases h
            · cases h
          · cases h
        · cases h
      · cases h
  · cases h
theorem xop_ok {R : Type} {s : St} {k : St → Option R} {r : R} (hT : TabOk P T) (hM0 : ∀ b, M0 b → b < w0.w.heap.size) (h : xop T o s k = some r) : ∃ s', Step P w0 M0 o s s' ∧ k s' = some r := by
  unfold xop at h
  obtain ⟨m,l,ob⟩:=s
  simp only at h
  split at h
  · rename_i d hd
    split at h
    · rename_i t ht
      cases hb:Nat.blt t m<;>rw [hb] at h<;>simp only [cond_true,cond_false] at h
      · cases h
      · rw [fV_eq, insK_eq] at h
        exact ⟨_,step_pure ht (by simpa using hb) (xpure_ok hT hd),h⟩
    · cases h
  · split at h
    · rename_i s' hs
      rw [fS_eq,fO_eq] at h
      obtain ⟨h1,h2⟩:=xstep_ok (P:=P) (w0:=w0) (M0:=M0) hT hM0 hs
      obtain ⟨m',l',o'⟩:=s'
      simp only at h2
      subst h2
      exact ⟨_,h1,h⟩
    · cases h

/- Control. -/
inductive Fm where
  | seq (y:Code)
  | blk (id:Nat)
  | scope
  | loop (I:Nat→St→Prop) (m:Nat)
  | cut (R:St→Prop)
inductive Cf where
  | code (c:Code)
  | ops (a:Array Oper) (r:List Oper)
  | done (e:Exit)
def toQ (P:Program) (w0:Fr) (M0:Nat→Prop) (Q:Exit→St→Prop):List Fm→Exit→St→Prop
  | []=>Q
  | .seq y :: k=>seqQ P w0 M0 y (toQ P w0 M0 Q k)
  | .blk i :: k=>blockQ i (toQ P w0 M0 Q k)
  | .scope :: k=>scopeQ (toQ P w0 M0 Q k)
  | .loop I m :: k=>loopM P w0 M0 I m (toQ P w0 M0 Q k)
  | .cut R :: k=>cutQ P w0 M0 R (toQ P w0 M0 Q k)
@[reducible] def At (P : Program) (w0 : Fr) (M0 : Nat → Prop) (Q : Exit → St → Prop) (k : List Fm) (cf : Cf) (s : St) : Prop := match cf with
  | .code c=>CodeOk P w0 M0 c s (toQ P w0 M0 Q k)
  | .ops a r=>OpsL P w0 M0 a (toQ P w0 M0 Q k .normal) r s
  | .done e=>toQ P w0 M0 Q k e s
def xr (T : List (Nat × TyF)) : Nat → Cf → List Fm → St → Option (Cf × List Fm × St)
  | 0,cf,k,s=>some (cf,k,s)
  | n + 1, .code c, k, s => match c with
    | .seq x y=>xr T n (.code x) (.seq y :: k) s
    | .block id c=>xr T n (.code c) (.blk id :: k) s
    | .scope c=>xr T n (.code c) (.scope :: k) s
    | .skip=>xr T n (.done .normal) k s
    | .label _=>xr T n (.done .normal) k s
    | .ret=>xr T n (.done .ret) k s
    | .exit id=>xr T n (.done (.exit id)) k s
    | .region _ ops dr => match dr with
      | false=>xr T n (.ops ops ops.toList) k s
      | true=>none
    | .cond x a b => match x with
      | .tmp t => match scal s.ev (.tmp t) with
        | some (.bool true)=>xr T n (.code a) k s
        | some (.bool false)=>xr T n (.code b) k s
        | _=>none
      | _=>none
    | _=>none
  | n + 1, .ops a l, k, s => match l with
    | []=>xr T n (.done .normal) k s
    | o :: r => match guardOf a s.ev o with
      | some true=>xop T o s fun s=>xr T n (.ops a r) k s
      | some false => match o.dst with
        | some t => match s with
          | ⟨m,l,ob⟩=>bif Nat.blt t m then insK t (.v .pl (.tup [])) l fun l=>xr T n (.ops a r) k ⟨m,l,ob⟩ else none
        | none=>none
      | none=>none
  | n + 1, .done e, k, s => match k with
    | []=>none
    | f :: k => match f with
      | .seq y => match e with
        | .normal=>xr T n (.code y) k s
        | e=>xr T n (.done e) k s
      | .blk id => match e with
        | .exit i=>bif Nat.beq i id then xr T n (.done .normal) k s else xr T n (.done (.exit i)) k s
        | e=>xr T n (.done e) k s
      | .scope => match e with
        | .goto _=>none
        | e=>xr T n (.done e) k s
      | .loop I m => match e with
        | .normal=>none
        | e=>xr T n (.done e) k s
      | .cut R => match e with
        | .normal=>none
        | e=>xr T n (.done e) k s
def xgo (T : List (Nat × TyF)) (n : Nat) (ids oids : List Nat) (cf : Cf) (k : List Fm) (s : St) : Option (Cf × List Fm × St) :=
  match xr T n cf k s with
  | some (cf, k, s) => match s with
    | ⟨m, l, o⟩ => match cf with
      | .done e => match e, k with
        | .normal,.loop I m' :: k=>pickK fV ids l fun l=>pickK fB oids o fun o=>some (.done .normal,.loop I m' :: k,⟨m,l,o⟩)
        | .normal,.cut R :: k=>pickK fV ids l fun l=>pickK fB oids o fun o=>some (.done .normal,.cut R :: k,⟨m,l,o⟩)
        | e,k=>some (.done e,k,⟨m,l,o⟩)
      | .code c=>pickK fV ids l fun l=>pickK fB oids o fun o=>some (.code c,k,⟨m,l,o⟩)
      | .ops a r=>pickK fV ids l fun l=>pickK fB oids o fun o=>some (.ops a r,k,⟨m,l,o⟩)
  | none=>none
variable {Q:Exit→St→Prop}
theorem xr_ok (hT : TabOk P T) (hM0 : ∀ b, M0 b → b < w0.w.heap.size) : ∀ (n : Nat) (cf : Cf) (k : List Fm) (s : St) (r : Cf × List Fm × St), xr T n cf k s = some r → At P w0 M0 Q r.2.1 r.1 r.2.2 → At P w0 M0 Q k cf s
  | 0,cf,k,s,r,h,hq=>by cases h;exact hq
  | n + 1, .code c, k, s, r, h, hq => by
    have ih:=fun cf k s h=>xr_ok hT hM0 n cf k s r h hq
    unfold xr at h
    cases c with
    | skip=>exact code_skip (ih _ _ _ h)
    | seq x y=>exact code_seq (ih _ _ _ h)
    | block id c=>exact code_block (ih _ _ _ h)
    | scope c=>exact code_scope (ih _ _ _ h)
    | label l=>exact code_label (ih _ _ _ h)
    | ret=>exact code_ret (ih _ _ _ h)
    | exit i=>exact code_exit (ih _ _ _ h)
    | region id ops dr =>
      cases dr with
      | false=>exact code_ops _ rfl (ih (.ops ops ops.toList) _ _ h)
      | true=>cases h
    | cond x a b =>
      cases x with
      | tmp t =>
        simp only at h
        split at h
        · exact code_cond_t ‹_› (ih _ _ _ h)
        · exact code_cond_f ‹_› (ih _ _ _ h)
        · cases h
      | _=>cases h
    | _=>cases h
  | n + 1, .ops a l, k, s, r, h, hq => by
    have ih:=fun cf k s h=>xr_ok hT hM0 n cf k s r h hq
    unfold xr at h
    cases l with
    | nil=>exact ol_nil (ih _ _ _ h)
    | cons o l =>
      simp only at h
      split at h
      · rename_i hg
        obtain ⟨s',h1,h2⟩:=xop_ok (P:=P) (w0:=w0) (M0:=M0) hT hM0 h
        exact ⟨s,Imp.refl _,s',.inl ⟨hg,h1⟩,ih (.ops a l) _ _ h2⟩
      · rename_i hg
        split at h
        · rename_i t ht
          obtain ⟨m,sl,ob⟩:=s
          simp only at h
          cases hb:Nat.blt t m<;>rw [hb] at h<;>simp only [cond_true,cond_false] at h
          · cases h
          · rw [insK_eq] at h
            exact ol_skip_u hg ht hb (ih (.ops a l) _ _ h)
        · cases h
      · cases h
  | n + 1, .done e, k, s, r, h, hq => by
    have ih:=fun cf k s h=>xr_ok hT hM0 n cf k s r h hq
    unfold xr at h
    cases k with
    | nil=>cases h
    | cons f k =>
      have hd:∀ e,xr T n (.done e) k s=some r→toQ P w0 M0 Q k e s:=fun e h=>ih (.done e) k s h
      have hc:∀ y,xr T n (.code y) k s=some r→CodeOk P w0 M0 y s (toQ P w0 M0 Q k):=fun y h=>ih (.code y) k s h
      cases f with
      | seq y=>cases e<;>first|exact hc y h|exact hd _ h
      | scope=>cases e<;>first|cases h;done|exact hd _ h
      | loop I m=>cases e<;>first|cases h;done|exact hd _ h
      | cut R=>cases e<;>first|cases h;done|exact hd _ h
      | blk id =>
        cases e with
        | exit i =>
          simp only at h
          cases hb:Nat.beq i id<;>rw [hb] at h<;>simp only [cond_true,cond_false] at h
          · exact blockQ_other (hd _ h) hb
          · have := Nat.eq_of_beq_eq_true hb
            subst this
            exact blockQ_same (hd _ h)
        | _=>exact hd _ h
theorem xgo_ok (hT : TabOk P T) (hM0 : ∀ b, M0 b → b < w0.w.heap.size) (n : Nat) (ids oids : List Nat) {cf cf' : Cf} {k k' : List Fm} {s s' : St} (h : xgo T n ids oids cf k s = some (cf', k', s')) (hk : At P w0 M0 Q k' cf' s') : At P w0 M0 Q k cf s := by
  unfold xgo at h
  split at h
  · rename_i cf1 k1 s1 hx
    obtain ⟨m,l,o⟩:=s1
    refine xr_ok hT hM0 n cf k s _ hx ?_
    cases cf1 with
    | done e =>
      simp only at h
      split at h
      · obtain ⟨l', h1, h2⟩ := pickK_ok fV_eq _ _ _ _ h
        obtain ⟨o',h3,h4⟩:=pickK_ok fB_eq _ _ _ _ h1
        cases h3
        obtain ⟨m2,s2,hi,hI⟩:=hk
        exact ⟨m2,s2,(imp_has (s:=⟨m,l,o⟩) (has_of_all h2) (hasO_of_all h4)).trans hi,hI⟩
      · obtain ⟨l', h1, h2⟩ := pickK_ok fV_eq _ _ _ _ h
        obtain ⟨o',h3,h4⟩:=pickK_ok fB_eq _ _ _ _ h1
        cases h3
        obtain ⟨s2,hi,hI⟩:=hk
        exact ⟨s2,(imp_has (s:=⟨m,l,o⟩) (has_of_all h2) (hasO_of_all h4)).trans hi,hI⟩
      · cases h;exact hk
    | code c =>
      obtain ⟨l',h1,h2⟩:=pickK_ok fV_eq _ _ _ _ h
      obtain ⟨o',h3,h4⟩:=pickK_ok fB_eq _ _ _ _ h1
      cases h3
      exact CodeOk.imp (imp_has (s:=⟨m,l,o⟩) (has_of_all h2) (hasO_of_all h4)) hk
    | ops a r =>
      obtain ⟨l',h1,h2⟩:=pickK_ok fV_eq _ _ _ _ h
      obtain ⟨o',h3,h4⟩:=pickK_ok fB_eq _ _ _ _ h1
      cases h3
      exact OpsL.imp (imp_has (s:=⟨m,l,o⟩) (has_of_all h2) (hasO_of_all h4)) hk
  · cases h
section forms
variable {cf':Cf} {k k':List Fm} {s:St} {n':Nat} {l':List (Nat×SV)} {o':List (Nat×Ob)} (hT:TabOk P T) (hM0:∀ b,M0 b→b<w0.w.heap.size) (n:Nat) (ids oids:List Nat)
include hT hM0
theorem xA {cf:Cf} (h:xgo T n ids oids cf k s=some (cf',k',⟨n',l',o'⟩)) (hk:At P w0 M0 Q k' cf' ⟨n',l',o'⟩):At P w0 M0 Q k cf s:=xgo_ok hT hM0 n ids oids h hk
theorem xC {c:Code} (h:xgo T n ids oids (.code c) [] s=some (cf',k',⟨n',l',o'⟩)) (hk:At P w0 M0 Q k' cf' ⟨n',l',o'⟩):CodeOk P w0 M0 c s Q:=xgo_ok hT hM0 n ids oids (cf:=.code c) (k:=[]) h hk
theorem xK {c:Code} (h:xgo T n ids oids (.code c) k s=some (cf',k',⟨n',l',o'⟩)) (hk:At P w0 M0 Q k' cf' ⟨n',l',o'⟩):CodeOk P w0 M0 c s (toQ P w0 M0 Q k):=xgo_ok hT hM0 n ids oids (cf:=.code c) h hk
theorem xO {a:Array Oper} {r:List Oper} (h:xgo T n ids oids (.ops a r) k s=some (cf',k',⟨n',l',o'⟩)) (hk:At P w0 M0 Q k' cf' ⟨n',l',o'⟩):OpsL P w0 M0 a (toQ P w0 M0 Q k .normal) r s:=xgo_ok hT hM0 n ids oids (cf:=.ops a r) h hk
theorem xD {e:Exit} (h:xgo T n ids oids (.done e) k s=some (cf',k',⟨n',l',o'⟩)) (hk:At P w0 M0 Q k' cf' ⟨n',l',o'⟩):toQ P w0 M0 Q k e s:=xgo_ok hT hM0 n ids oids (cf:=.done e) h hk
theorem xL {c:Code} {I:Nat→St→Prop} {m:Nat} (h:xgo T n ids oids (.code c) (.loop I m :: k) s=some (cf',k',⟨n',l',o'⟩)) (hk:At P w0 M0 Q k' cf' ⟨n',l',o'⟩):CodeOk P w0 M0 c s (loopM P w0 M0 I m (toQ P w0 M0 Q k)):=xgo_ok hT hM0 n ids oids (cf:=.code c) (k:=.loop I m :: k) h hk
end forms
theorem nx {I:Nat→St→Prop} {m:Nat} {k:List Fm} {s:St} (h:∃ m',I m' s∧m'<m):At P w0 M0 Q (.loop I m :: k) (.done .normal) s:=by
  obtain ⟨m',hI,hm⟩:=h
  exact ⟨m',s,Imp.refl _,hI,hm⟩
theorem cx {R:St→Prop} {k:List Fm} {s:St} (h:R s):At P w0 M0 Q (.cut R :: k) (.done .normal) s:=⟨s,Imp.refl _,h⟩
theorem lp {c:Code} {k:List Fm} {s:St} (I:Nat→St→Prop) (h0:∃ m,I m s) (hr:∀ m s,I m s→At P w0 M0 Q (.loop I m :: k) (.code c) s):At P w0 M0 Q k (.code (.loop c)) s:=by
  obtain ⟨m,h0⟩:=h0
  exact code_loopM I ⟨m,s,Imp.refl _,h0⟩ hr
theorem ct {x y:Code} {k:List Fm} {s:St} (R:St→Prop) (h:At P w0 M0 Q (.cut R :: k) (.code x) s) (h':∀ s,R s→At P w0 M0 Q k (.code y) s):At P w0 M0 Q k (.code (.seq x y)) s:=code_cut R h h'
def dstOk (a : Array Oper) (o : Oper) (s : St) : Option Nat := match guardOf a s.ev o with
  | some true => match o.dst with
    | some t=>bif Nat.blt t s.n then some t else none
    | none=>none
  | _=>none
theorem oP {a:Array Oper} {r:List Oper} {k:List Fm} {n:Nat} {l:List (Nat×SV)} {t:Nat} (hd:dstOk a o ⟨n,l,ob⟩=some t) (h:Pure P w0 M0 o (St.ev ⟨n,l,ob⟩) ob d) (hr:At P w0 M0 Q k (.ops a r) ⟨n,ins t d l,ob⟩):At P w0 M0 Q k (.ops a (o :: r)) ⟨n,l,ob⟩:=by
  unfold dstOk at hd
  split at hd
  · rename_i hg
    split at hd
    · rename_i u hu
      cases hb:Nat.blt u n<;>rw [hb] at hd<;>simp only [cond_true,cond_false] at hd<;>cases hd
      exact ⟨_,Imp.refl _,_,.inl ⟨hg,step_pure hu (by simpa using hb) h⟩,hr⟩
    · cases hd
  · cases hd
theorem oS {a:Array Oper} {r:List Oper} {k:List Fm} {n:Nat} {l:List (Nat×SV)} {s':St} (hg:guardOf a (St.ev ⟨n,l,ob⟩) o=some true) (h:Step P w0 M0 o ⟨n,l,ob⟩ s') (hn:s'.n=n) (hr:At P w0 M0 Q k (.ops a r) ⟨n,s'.s,s'.o⟩):At P w0 M0 Q k (.ops a (o :: r)) ⟨n,l,ob⟩:=by
  subst hn
  exact ⟨_,Imp.refl _,_,.inl ⟨hg,h⟩,hr⟩
class Ix (n:Int) (k:outParam Nat):Prop where
  h:n.toNat=k
instance (i:Nat):Ix (i:Int) i:=⟨Int.toNat_natCast i⟩
instance (i:Nat):Ix (Int.ofNat i) i:=⟨rfl⟩
instance:Ix 0 0:=⟨rfl⟩
instance:Ix 1 1:=⟨rfl⟩
instance:Ix 2 2:=⟨rfl⟩
instance (priority:=low) (n:Int):Ix n n.toNat:=⟨rfl⟩
theorem pure_ix {α:Type} [Inhabited α] {f:α→AV} {l:List α} {ob:List (Nat×Ob)} {x y:Operand} {T e:TypeId} {c:Cls} {k:Nat} {q:IntKind} {n:Int} {i:Nat} (ho:o.op=.indexAddr T x y) (hT:P.underlying T=some (.slice e)) (hk:szOf P e=some k)
    (hx:viewAt ρ ob x=some (c,.sl (l.map f))) (hy:scal ρ y=some (.int q n)) [hi:Ix n i] (h:0≤n∧n<l.length) (hc:∀ z,(AV.cells (f z)).length=k) :
    Pure P w0 M0 o ρ ob (.v c (.pc (AV.cells (f (l.getD i default))) 0)):=by
  have:=pure_indexm (P:=P) (w0:=w0) (M0:=M0) ho hT hk hx hy h hc
  rwa [hi.h] at this
theorem imp_know {s:St} {t:Nat} {z:Bool} (h:scal s.ev (.tmp t)=some (.bool z)):Imp P w0 M0 s (s.put t (.v .pl (.sc (.bool z)))):=by
  rintro a w ⟨E,hs⟩
  have hv:a.eval (.tmp t)=.bool z:=scal_ok (ρ:=s.ev) (x:=.tmp t) (ob:=s.o) (ev:=a.eval) (fun x e hx=>hs.ev hx) h
  refine ⟨E,hs.size,hs.defers,fun u d hd=>?_,hs.wok⟩
  simp only [St.put] at hd ⊢
  rw [lookup_ins] at hd
  split at hd
  · rename_i hu
    subst hu
    cases hd
    unfold scal at h
    cases hl:s.s.lookup u with
    | none=>simp [St.ev,hl] at h
    | some e =>
      refine ⟨(hs.slots u e hl).1,?_⟩
      have:a.tmps.getD u undef=.bool z:=hv
      rw [this];exact .sc _ rfl
  · exact hs.slots u d hd
section split
variable {k:List Fm} {n:Nat} {l:List (Nat×SV)} (t:Nat) {b:Bool}
theorem spC {c:Code} (hb:scal (St.ev ⟨n,l,ob⟩) (.tmp t)=some (.bool b)) (h1:b=true→At P w0 M0 Q k (.code c) ⟨n,ins t (.v .pl (.sc (.bool true))) l,ob⟩) (h0:b=false→At P w0 M0 Q k (.code c) ⟨n,ins t (.v .pl (.sc (.bool false))) l,ob⟩):At P w0 M0 Q k (.code c) ⟨n,l,ob⟩:=by
  cases b
  · exact CodeOk.imp (imp_know hb) (h0 rfl)
  · exact CodeOk.imp (imp_know hb) (h1 rfl)
theorem spO {a:Array Oper} {r:List Oper} (hb:scal (St.ev ⟨n,l,ob⟩) (.tmp t)=some (.bool b)) (h1:b=true→At P w0 M0 Q k (.ops a r) ⟨n,ins t (.v .pl (.sc (.bool true))) l,ob⟩) (h0:b=false→At P w0 M0 Q k (.ops a r) ⟨n,ins t (.v .pl (.sc (.bool false))) l,ob⟩):At P w0 M0 Q k (.ops a r) ⟨n,l,ob⟩:=by
  cases b
  · exact OpsL.imp (imp_know hb) (h0 rfl)
  · exact OpsL.imp (imp_know hb) (h1 rfl)
end split
end
end Go.Am

