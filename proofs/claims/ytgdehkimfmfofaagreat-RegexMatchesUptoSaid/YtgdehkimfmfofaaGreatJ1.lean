/-
  Operations that read memory,on abstract states;calls.
-/
import Derived.Test.YtgdehkimfmfofaaGreatJ0
set_option linter.unusedVariables false
set_option linter.unusedSectionVars false
set_option linter.unusedSimpArgs false
namespace Go.Am
open Go.RowKit

def ins {α:Type} (t:Nat) (d:α):List (Nat×α)→List (Nat×α)
  | []=>[(t,d)]
  | (u,e) :: r=>if t<u then (t,d) :: (u,e) :: r else if t=u then (t,d) :: r else (u,e) :: ins t d r
theorem lookup_cons' {α:Type} (u t:Nat) (d:α) (r:List (Nat×α)):List.lookup u ((t,d) :: r)=if u=t then some d else r.lookup u:=by
  by_cases h:u=t
  · subst h;simp [List.lookup]
  · have : (u == t) = false := by simpa using h
    simp [List.lookup,this,h]
theorem lookup_ins {α : Type} (t u : Nat) (d : α) (l : List (Nat × α)) : (ins t d l).lookup u = if u = t then some d else l.lookup u := by
  induction l with
  | nil=>simp [ins,lookup_cons']
  | cons p r ih =>
    obtain ⟨x,e⟩:=p
    unfold ins
    split
    · rw [lookup_cons',lookup_cons']
    · split
      · rename_i h2
        subst h2
        rw [lookup_cons',lookup_cons']
        split<;>simp_all
      · rename_i h2
        rw [lookup_cons',ih,lookup_cons']
        by_cases ha:u=x
        · subst ha;simp [Ne.symm h2]
        · simp [ha]

def St.put (s:St) (t:Nat) (d:SV):St:={ s with s:=ins t d s.s }
def St.setO (s:St) (id:Nat) (ob:Ob):St:={ s with o:=ins id ob s.o }

section
variable {P:Program} {w0:Fr} {M0:Nat→Prop}

theorem SimE.put {E:Env} {s:St} {a:Act} {w:World} (h:SimE P w0 M0 E s a w) {t:Nat} (ht:t<s.n) {v:Value} {d:SV} (hv:SVok P M0 w E s.o v d) :
    SimE P w0 M0 E (s.put t d) (a.put (some t) v) w:=by
  refine ⟨by simpa [Act.put,St.put] using h.size,h.defers.same rfl fun _ h=>h,fun u e he=>?_,h.wok⟩
  simp only [St.put] at he ⊢
  rw [lookup_ins] at he
  by_cases hu:u=t
  · subst hu
    simp only [if_true,Option.some.injEq] at he
    subst he
    refine ⟨ht,?_⟩
    have:(a.put (some u) v).tmps.getD u undef=v:=by
      have:=h.size
      simp [Act.put,Array.getD_eq_getD_getElem?,this,ht]
    rw [this];exact hv
  · rw [if_neg hu] at he
    have:=h.slots u e he
    refine ⟨this.1,?_⟩
    have hq:(a.put (some t) v).tmps.getD u undef=a.tmps.getD u undef:=by
      simp [Act.put,Array.getD_eq_getD_getElem?,Ne.symm hu]
    rw [hq];exact this.2

def constAV:Value→Option AV
  | .agg cs=>bif cs.toList.all Value.oneCell' then some (.agg (cs.toList.map .sc)) else none
  | .tuple _=>none
  | v=>some (.sc v)
def St.ev (s:St):Operand→Option SV
  | .tmp t=>s.s.lookup t
  | .const v=>(constAV v).map (.v .pl)
  | .func f=>some (.v .pl (.clo f []))
  | .global _=>none
theorem constAV_ok {w:World} {M:Nat→Prop} {v:Value} {d:AV} (h:constAV v=some d):Rep w M v d:=by
  unfold constAV at h
  split at h
  · rename_i cs
    cases hc:cs.toList.all Value.oneCell'
    · simp [hc] at h
    · simp only [hc, cond_true, Option.some.injEq] at h
      subst h
      rw [List.all_eq_true] at hc
      have:=Rep.agg (w:=w) (M:=M) cs.toList (cs.toList.map .sc) (by simp) (fun j d hd=>by
          simp at hd;obtain ⟨x,_,rfl⟩:=hd;rfl) (fun j d hd=>by
          rw [List.getElem?_map] at hd
          cases hx:cs.toList[j]? with
          | none=>simp [hx] at hd
          | some x =>
            rw [hx] at hd
            simp only [Option.map_some,Option.some.injEq] at hd
            subst hd
            rw [List.getD_eq_getElem?_getD,hx]
            exact .sc x (hc x (List.mem_of_getElem? hx)))
      simpa using this
  · cases h
  · simp only [Option.some.injEq] at h
    subst h
    exact .sc v (by cases v<;>simp_all [Value.oneCell'])
theorem SimE.ev {E:Env} {s:St} {a:Act} {w:World} (h:SimE P w0 M0 E s a w) {x:Operand} {d:SV} (hx:s.ev x=some d):SVok P M0 w E s.o (a.eval x) d:=by
  cases x with
  | tmp t=>exact (h.slots t d hx).2
  | const v =>
    simp only [St.ev,Option.map_eq_some_iff] at hx
    obtain ⟨e,he,rfl⟩:=hx
    exact constAV_ok he
  | func f =>
    simp only [St.ev,Option.some.injEq] at hx
    subst hx
    exact .clo f [] [] rfl (fun j d hd=>by simp at hd)
  | global g=>cases hx

def Yield (P:Program) (ev:Operand→Value) (o:Oper) (w:World) (R:Value→World→Prop):Prop :=
  match (execOp ev o).run P w with
  | .ok (.value v) w'=>R v w'
  | .ok (.enter f args) w'=>w'=w∧Calls P f args w (fun e w''=>∃ v,e=.returned v∧R v w'')
  | _=>False
def Pure (P : Program) (w0 : Fr) (M0 : Nat → Prop) (o : Oper) (ρ : Operand → Option SV) (ob : List (Nat × Ob)) (d : SV) : Prop :=
  ∀ (E : Env) (w : World) (ev : Operand → Value), WOk P w0 M0 E ob w → (∀ x e, ρ x = some e → SVok P M0 w E ob (ev x) e) →
    Yield P ev o w (fun v w'=>BelowD w0.dr w.heap.size w w'∧SVok P M0 w' E ob v d)
def Step (P:Program) (w0:Fr) (M0:Nat→Prop) (o:Oper) (s s':St):Prop :=
  ∀ a w Q,Sim P w0 M0 s a w→o.wp P a w (fun a' w'=>Sim P w0 M0 s' a' w') Q
theorem step_pure {o:Oper} {s:St} {t:Nat} {d:SV} (hd:o.dst=some t) (ht:t<s.n) (h:Pure P w0 M0 o s.ev s.o d):Step P w0 M0 o s (s.put t d):=by
  rintro a w Q ⟨E,hs⟩
  have hy:=h E w a.eval hs.wok (fun x e hx=>hs.ev hx)
  unfold Yield at hy
  unfold Oper.wp
  generalize (execOp a.eval o).run P w=r at *
  match r,hy with
  | .ok (.value v) w', hy =>
    simp only [Oper.upon,hd]
    exact ⟨E,(hs.grow hy.1).put ht hy.2⟩
  | .ok (.enter f args) w', hy =>
    obtain ⟨rfl,hc⟩:=hy
    simp only [Oper.upon]
    refine hc.mono fun e w'' ⟨v,he,hb,hv⟩=>?_
    subst he
    rw [hd]
    exact ⟨E,(hs.grow hb).put ht hv⟩

theorem pure_value {o:Oper} {ρ:Operand→Option SV} {ob:List (Nat×Ob)} {d:SV}
    (h:∀ (E:Env) (w:World) (ev:Operand→Value),WOk P w0 M0 E ob w→(∀ x e,ρ x=some e→SVok P M0 w E ob (ev x) e) →
      ∃ v w',(execOp ev o).run P w=.ok (.value v) w'∧BelowD w0.dr w.heap.size w w'∧SVok P M0 w' E ob v d):Pure P w0 M0 o ρ ob d:=by
  intro E w ev hw hx
  obtain ⟨v,w',h1,h2⟩:=h E w ev hw hx
  unfold Yield
  rw [h1]
  exact h2

section ops
variable {o:Oper} {ρ:Operand→Option SV} {ob:List (Nat×Ob)} {d:SV} {x y:Operand}
theorem pure_move (ho:o.op=.move x) (hx:ρ x=some d):Pure P w0 M0 o ρ ob d :=
  pure_value fun E w ev hw h=>⟨ev x,w,by simp [execOp,ho],.refl _ _,h x d hx⟩
theorem pure_assign (ho:o.op=.assign x) (hx:ρ x=some d):Pure P w0 M0 o ρ ob d :=
  pure_value fun E w ev hw h=>⟨ev x,w,by simp [execOp,ho],.refl _ _,h x d hx⟩

def SV.val:SV→Option Value
  | .v _ (.sc u)=>some u
  | _=>none
theorem SVok.val {w:World} {E:Env} {o:List (Nat×Ob)} {v u:Value} {d:SV} (h:SVok P M0 w E o v d) (hd:d.val=some u):v=u:=by
  cases d with
  | v c d =>
    cases d with
    | sc z =>
      simp only [SV.val,Option.some.injEq] at hd
      subst hd
      cases h;rfl
    | _=>cases hd
  | _=>cases hd
def scal (ρ:Operand→Option SV) (x:Operand):Option Value:=(ρ x).bind SV.val
theorem scal_ok {E:Env} {w:World} {ev:Operand→Value} (h:∀ x e,ρ x=some e→SVok P M0 w E ob (ev x) e) {u:Value} (hx:scal ρ x=some u):ev x=u:=by
  unfold scal at hx
  cases hr:ρ x with
  | none=>rw [hr] at hx;cases hx
  | some e=>rw [hr] at hx;exact (h x e hr).val hx
theorem sv_sc {w:World} {E:Env} {o:List (Nat×Ob)} {v:Value} {c:Cls} (h:v.oneCell'=true):SVok P M0 w E o v (.v c (.sc v)):=.sc v h
theorem pure_scal {u:Value} (hu:u.oneCell'=true) (h:∀ (w:World) (ev:Operand→Value),(∀ x v,scal ρ x=some v→ev x=v)→(execOp ev o).run P w=.ok (.value u) w) :
    Pure P w0 M0 o ρ ob (.v .pl (.sc u)) :=
  pure_value fun E w ev hw hx=>⟨u,w,h w ev (fun x v hv=>scal_ok hx hv),.refl _ _,sv_sc hu⟩
section
variable {op:BinOp} {T T':TypeId} {k:IntKind} {a b:Int}
theorem pure_bin {u:Value} {va vb:Value} (ho:o.op=.binOp op T x y T') (hx:scal ρ x=some va) (hy:scal ρ y=some vb) (hu:u.oneCell'=true)
    (hg:eqGuard op T x y va vb=pure ()) (hb:∀ w,(binOp op T va vb).run P w=.ok u w):Pure P w0 M0 o ρ ob (.v .pl (.sc u)) :=
  pure_scal hu fun w ev h=>by simp [execOp,ho,h x va hx,h y vb hy,hg,hb]
theorem pure_add (ho:o.op=.binOp .add T x y T') (hx:scal ρ x=some (.int k a)) (hy:scal ρ y=some (.int k b)):Pure P w0 M0 o ρ ob (.v .pl (.sc (.int k (k.wrap (a+b))))) :=
  pure_bin ho hx hy rfl (by simp [go_sem]) (fun w=>by simp [go_sem])
theorem pure_sub (ho:o.op=.binOp .sub T x y T') (hx:scal ρ x=some (.int k a)) (hy:scal ρ y=some (.int k b)):Pure P w0 M0 o ρ ob (.v .pl (.sc (.int k (k.wrap (a-b))))) :=
  pure_bin ho hx hy rfl (by simp [go_sem]) (fun w=>by simp [go_sem])
theorem pure_quo (ho:o.op=.binOp .quo T x y T') (hx:scal ρ x=some (.int k a)) (hy:scal ρ y=some (.int k b)) (hb:b≠0):Pure P w0 M0 o ρ ob (.v .pl (.sc (.int k (k.wrap (a.tdiv b))))) :=
  pure_bin ho hx hy rfl (by simp [go_sem]) (fun w=>by simp [go_sem,Op.intDiv,hb])
theorem pure_rem (ho:o.op=.binOp .rem T x y T') (hx:scal ρ x=some (.int k a)) (hy:scal ρ y=some (.int k b)) (hb:b≠0):Pure P w0 M0 o ρ ob (.v .pl (.sc (.int k (a.tmod b)))) :=
  pure_bin ho hx hy rfl (by simp [go_sem]) (fun w=>by simp [go_sem,Op.intDiv,hb])
theorem pure_lss (ho:o.op=.binOp .lss T x y T') (hx:scal ρ x=some (.int k a)) (hy:scal ρ y=some (.int k b)):Pure P w0 M0 o ρ ob (.v .pl (.sc (.bool (decide (a<b))))) :=
  pure_bin ho hx hy rfl (by simp [go_sem]) (fun w=>by simp [go_sem])
theorem pure_leq (ho:o.op=.binOp .leq T x y T') (hx:scal ρ x=some (.int k a)) (hy:scal ρ y=some (.int k b)):Pure P w0 M0 o ρ ob (.v .pl (.sc (.bool (decide (a≤b))))) :=
  pure_bin ho hx hy rfl (by simp [go_sem]) (fun w=>by simp [go_sem])
theorem pure_gtr (ho:o.op=.binOp .gtr T x y T') (hx:scal ρ x=some (.int k a)) (hy:scal ρ y=some (.int k b)):Pure P w0 M0 o ρ ob (.v .pl (.sc (.bool (decide (b<a))))) :=
  pure_bin ho hx hy rfl (by simp [go_sem]) (fun w=>by simp [go_sem])
theorem pure_geq (ho:o.op=.binOp .geq T x y T') (hx:scal ρ x=some (.int k a)) (hy:scal ρ y=some (.int k b)):Pure P w0 M0 o ρ ob (.v .pl (.sc (.bool (decide (b≤a))))) :=
  pure_bin ho hx hy rfl (by simp [go_sem]) (fun w=>by simp [go_sem])
theorem pure_eql (ho:o.op=.binOp .eql T x y T') (hx:scal ρ x=some (.int k a)) (hy:scal ρ y=some (.int k b)):Pure P w0 M0 o ρ ob (.v .pl (.sc (.bool (decide (a=b))))) :=
  pure_bin ho hx hy rfl (by simp [go_sem]) (fun w=>by simp only [binOp_eql,Sem.run_pure];congr)
theorem pure_neq (ho:o.op=.binOp .neq T x y T') (hx:scal ρ x=some (.int k a)) (hy:scal ρ y=some (.int k b)):Pure P w0 M0 o ρ ob (.v .pl (.sc (.bool (!decide (a=b))))) :=
  pure_bin ho hx hy rfl (by simp [go_sem]) (fun w=>by simp only [binOp_neq,Sem.run_pure];congr)
theorem pure_pick {c:Operand} {z:Bool} (ho:o.op=.pick c x y) (hc:scal ρ c=some (.bool z)) (hx:ρ (bif z then x else y)=some d):Pure P w0 M0 o ρ ob d :=
  pure_value fun E w ev hw h=>⟨ev (bif z then x else y),w,by cases z<;>simp [execOp,ho,scal_ok h hc,asBool],.refl _ _,h _ d hx⟩
end
end ops
end
end Go.Am

namespace Go.Am
open Go.RowKit

def szOf (P:Program) (t:TypeId):Option Nat:=(P.info? t).map (·.size)
def isAggOf (P:Program) (t:TypeId):Option Bool:=(P.underlying t).map fun|.struct _|.array _ _=>true|_=>false
def fldOf (P:Program) (t:TypeId) (f:Nat):Option (Nat×Nat×Bool) :=
  match P.underlying t with
  | some (.struct fs)=>(fs[f]?).bind fun f=>(szOf P f.type).bind fun k=>(isAggOf P f.type).map fun g=>(f.offset,k,g)
  | _=>none

theorem cellsOf_of {P:Program} {t:TypeId} {k:Nat} (h:szOf P t=some k):P.cellsOf t=k:=by
  unfold szOf at h;unfold Program.cellsOf;rw [h];rfl
theorem run_size {P:Program} {t:TypeId} {k:Nat} (h:szOf P t=some k) (w:World):(sizeOf t).run P w=.ok k w:=by
  unfold szOf at h
  cases hi:P.info? t with
  | none=>rw [hi] at h;cases h
  | some i=>rw [hi] at h;simp only [Option.map_some,Option.some.injEq] at h;subst h;simp [sizeOf,typeInfo,hi]
theorem run_isAggOf {P:Program} {t:TypeId} {b:Bool} (h:isAggOf P t=some b) (w:World):(isAgg t).run P w=.ok b w:=by
  unfold isAggOf at h
  cases hi:P.underlying t with
  | none=>rw [hi] at h;cases h
  | some d =>
    rw [hi] at h;simp only [Option.map_some,Option.some.injEq] at h;subst h
    simp only [isAgg,Sem.run_bind,run_underlying hi,Result.andThen_ok]
    cases d<;>rfl

theorem flat_length {k:Nat}:∀ (xs:List AV),(∀ x∈xs,(AV.cells x).length=k)→(flat xs).length=xs.length*k
  | [],_=>by simp [flat]
  | x :: r, h => by
    have ih:=flat_length r (fun y hy=>h y (List.mem_cons_of_mem _ hy))
    have hx:=h x List.mem_cons_self
    simp only [flat,List.flatMap_cons,List.length_append,List.length_cons] at ih ⊢
    rw [ih,hx,Nat.add_mul];omega
theorem flat_get {k:Nat}:∀ (xs:List AV) (i:Nat) (el:AV),(∀ x∈xs,(AV.cells x).length=k)→xs[i]?=some el→∀ j,j<k→(flat xs)[i*k+j]?=(AV.cells el)[j]?
  | [],i,el,_,h,_,_=>by simp at h
  | x :: r, 0, el, hk, h, j, hj => by
    simp only [List.getElem?_cons_zero,Option.some.injEq] at h
    subst h
    have hx:=hk x List.mem_cons_self
    simp only [flat,List.flatMap_cons,Nat.zero_mul,Nat.zero_add]
    rw [List.getElem?_append_left (by omega)]
  | x :: r, i + 1, el, hk, h, j, hj => by
    have hx:=hk x List.mem_cons_self
    have ih:=flat_get r i el (fun y hy=>hk y (List.mem_cons_of_mem _ hy)) (by simpa using h) j hj
    simp only [flat,List.flatMap_cons] at ih ⊢
    rw [List.getElem?_append_right (by rw [hx,Nat.add_mul];omega),hx,← ih]
    congr 1
    rw [Nat.add_mul];omega

section
variable {P:Program} {w0:Fr} {M0:Nat→Prop}

theorem ObOk.rep {w:World} {E:Env} {o:List (Nat×Ob)} {id:Nat} {e:TypeId} {xs:List AV} {M:Nat→Prop} (h:ObOk P w0 M0 w E o id (.arr e xs))
    (hM:∀ b,M b→clsM M0 (owned E o) .pl b) (hb:∀ g,(E.cur id).ownBlock=some g→¬ M g):Rep w M (E.cur id) (.sl xs):=by
  obtain ⟨vals,h1,h2,h3⟩:=h
  have hfl:=flat_length xs h2
  obtain ⟨⟨hl,h1'⟩,hfree⟩:=h1
  rcases h1' with ⟨hv,hn⟩|⟨g,cap,cur,hv,hg,hh,hnc,hcm,hcs,htake⟩
  · rw [hv]
    have:xs=[]:=List.eq_nil_of_length_eq_zero hn
    subst this
    exact .sl none 0 0 [] (P.cellsOf e) (fun _=>undef) rfl (Nat.le_refl _) h2 (fun h=>absurd h (by omega)) (fun j d hd=>by simp [flat] at hd) (fun j d hd=>by simp [flat] at hd)
  · rw [hv]
    have hown:w.ownsRow 0 e (P.cellsOf e) (E.cur id) xs.length vals:=⟨hl,.inr ⟨g,cap,cur,hv,hg,hh,hnc,hcm,hcs,htake⟩⟩
    have hob:(E.cur id).ownBlock=some g:=by rw [hv];rfl
    refine .sl _ _ _ _ (P.cellsOf e) (fun j=>vals.getD j undef) rfl hnc h2 (fun h0=>⟨g,0,rfl,hb g hob,(hown.lt g hob).2,fun j hj=>?_⟩) (fun j d hd=>(h3 j d hd).1) (fun j d hd=>((h3 j d hd).2).weak hM)
    have hj':j<vals.length:=by rw [hl];exact hj
    have:=hown.cells hob j vals[j] (List.getElem?_eq_getElem hj')
    rw [Addr.add_lit] at this
    rw [this,List.getD_eq_getElem?_getD,List.getElem?_eq_getElem hj'];rfl

def view (ob : List (Nat × Ob)) : SV → Option (Cls × AV)
  | .v _ (.sc (.slice none 0 0))=>some (.pl,.sl [])
  | .v _ (.sc v)=>some (.pl,.sc v)
  | .v c d=>some (c,d)
  | .own id => match ob.lookup id with
    | some (.arr _ xs)=>some (.vw,.sl xs)
    | _=>none
  | .omap id => match ob.lookup id with
    | some (.mp ks vs)=>some (.vw,.mp ks vs)
    | _=>none
  | _=>none
theorem view_ok {w:World} {E:Env} {ob:List (Nat×Ob)} {v:Value} {s:SV} {c:Cls} {d:AV} (hw:WOk P w0 M0 E ob w) (h:SVok P M0 w E ob v s) (hv:view ob s=some (c,d)) :
    Rep w (clsM M0 (owned E ob) c) v d:=by
  unfold view at hv
  split at hv
  · simp only [Option.some.injEq, Prod.mk.injEq] at hv
    obtain ⟨rfl,rfl⟩:=hv
    cases h
    exact .sl none 0 0 [] 0 (fun _=>undef) rfl (Nat.le_refl _) (by simp) (fun h=>absurd h (by omega)) (fun j d hd=>by simp [flat] at hd) (fun j d hd=>by simp [flat] at hd)
  · simp only [Option.some.injEq, Prod.mk.injEq] at hv
    obtain ⟨rfl,rfl⟩:=hv
    cases h
    exact .sc _ ‹_›
  · simp only [Option.some.injEq, Prod.mk.injEq] at hv
    obtain ⟨rfl,rfl⟩:=hv
    exact h
  · rename_i id
    split at hv
    · rename_i e xs hl
      simp only [Option.some.injEq,Prod.mk.injEq] at hv
      obtain ⟨rfl,rfl⟩:=hv
      rw [h e xs hl]
      exact (hw.objs id _ hl).rep (fun b hb=>hb.elim) (fun g _ hf=>hf.elim)
    · cases hv
  · rename_i id
    split at hv
    · rename_i ks vs hl
      simp only [Option.some.injEq,Prod.mk.injEq] at hv
      obtain ⟨rfl,rfl⟩:=hv
      rw [h ks vs hl]
      have hlt:=((hw.objs id _ hl).own_range rfl).2
      obtain ⟨es,clock,h1,h2,h3,h4,h5⟩:=hw.objs id _ hl
      exact .mp _ es clock ks vs (fun h=>h) hlt h1 h3 h4 fun j d hd=>(h5 j d hd).weak fun b hb=>hb.elim
    · cases hv
  · cases hv

section ops
variable {o:Oper} {ρ:Operand→Option SV} {ob:List (Nat×Ob)} {d:SV} {x y:Operand} {T T':TypeId} {e:TypeId} {k:Nat} {c:Cls}

def viewAt (ρ:Operand→Option SV) (ob:List (Nat×Ob)) (x:Operand):Option (Cls×AV):=(ρ x).bind (view ob)
theorem viewAt_ok {E:Env} {w:World} {ev:Operand→Value} (hw:WOk P w0 M0 E ob w) (h:∀ x e,ρ x=some e→SVok P M0 w E ob (ev x) e) {c:Cls} {d:AV} (hx:viewAt ρ ob x=some (c,d)) :
    Rep w (clsM M0 (owned E ob) c) (ev x) d:=by
  unfold viewAt at hx
  cases hr:ρ x with
  | none=>rw [hr] at hx;cases hx
  | some s=>rw [hr] at hx;exact view_ok hw (h x s hr) hx

theorem pure_len {xs:List AV} (ho:o.op=.call { callee:=.builtin .len,args:=#[x],argTypes:=#[T] }) (hT:P.underlying T=some (.slice e)) (hx:viewAt ρ ob x=some (c,.sl xs)) :
    Pure P w0 M0 o ρ ob (.v .pl (.sc (.int .i64 xs.length))) :=
  pure_value fun E w ev hw h=>by
    have hr:=viewAt_ok hw h hx
    generalize hq:ev x=q at hr
    cases hr with
    | sl a n cap _ k cv hn hc hk hb hl hr =>
      refine ⟨.int .i64 xs.length,w,?_,.refl _ _,sv_sc rfl⟩
      subst hn
      simp [execOp,ho,resolve,hq,invoke,builtin,Builtin.len_,run_underlying hT,goInt]
theorem pure_len_string {s:ByteArray} (ho:o.op=.call { callee:=.builtin .len,args:=#[x],argTypes:=#[T] }) (hT:P.underlying T=some .string) (hx:scal ρ x=some (.string s)) :
    Pure P w0 M0 o ρ ob (.v .pl (.sc (.int .i64 s.size))) :=
  pure_scal rfl fun w ev h=>by simp [execOp,ho,resolve,h x _ hx,invoke,builtin,Builtin.len_,run_underlying hT,goInt]

theorem pure_index {xs : List AV} {q : IntKind} {i : Int} {el : AV} (ho : o.op = .indexAddr T x y) (hT : P.underlying T = some (.slice e)) (hk : szOf P e = some k)
    (hx:viewAt ρ ob x=some (c,.sl xs)) (hy:scal ρ y=some (.int q i)) (h0:0≤i) (he:xs[i.toNat]?=some el) (hc:(AV.cells el).length=k) :
    Pure P w0 M0 o ρ ob (.v c (.pc (AV.cells el) 0)) :=
  pure_value fun E w ev hw h=>by
    have hr:=viewAt_ok hw h hx
    have hi:=scal_ok h hy
    generalize hq:ev x=qx at hr
    cases hr with
    | sl a n cap _ k' cv hn hnc hk' hb hl hr =>
      have hlt:i.toNat<xs.length:=(List.getElem?_eq_some_iff.1 he).1
      have hkk:k'=k:=by rw [← hc];exact (hk' el (List.mem_of_getElem? he)).symm
      subst hkk
      obtain ⟨b,of,rfl,hM,hbs,hcells⟩:=hb (by omega)
      have hmul:i.toNat*k'+k'≤n*k':=by rw [← Nat.succ_mul];exact Nat.mul_le_mul_right _ (by omega)
      refine ⟨.pointer (some ⟨b,of+i.toNat*k'+0,none⟩),w,?_,.refl _ _,?_⟩
      · have hin : 0 ≤ i ∧ i < (n : Int) := by omega
        have hel:P.elem T=e:=by simp [Program.elem,hT]
        simp [execOp,ho,hq,hi,run_indexAt_slice,hel,hT,hin,run_size hk,Addr.add_lit]
      · have hg := flat_get xs i.toNat el hk' he
        refine .pc b _ 0 _ (fun j=>cv (i.toNat*k'+j)) hM hbs (fun j hj=>?_) (fun j d hd=>?_) (fun j d hd=>?_)
        · have := hcells (i.toNat * k' + j) (by omega)
          rw [← this];congr 2;omega
        · have hj : j < k' := by rw [← hc]; exact (List.getElem?_eq_some_iff.1 hd).1
          exact hl (i.toNat*k'+j) d (by rw [hg j hj];exact hd)
        · have hj : j < k' := by rw [← hc]; exact (List.getElem?_eq_some_iff.1 hd).1
          exact hr (i.toNat*k'+j) d (by rw [hg j hj];exact hd)

theorem pure_load {cs:List AV} {off:Nat} {el:AV} (ho:o.op=.load T x) (hT:isAggOf P T=some false) (hx:ρ x=some (.v c (.pc cs off))) (he:cs[off]?=some el) :
    Pure P w0 M0 o ρ ob (.v c el) :=
  pure_value fun E w ev hw h=>by
    have hr:=h x _ hx
    simp only [SVok] at hr
    generalize hq:ev x=qx at hr
    cases hr with
    | pc b of _ _ cv hM hb hc hl hr =>
      refine ⟨cv off,w,?_,.refl _ _,hr off el he⟩
      have:=hc off (List.getElem?_eq_some_iff.1 he).1
      simp [execOp,ho,hq,Instr.loadAt,Instr.sureAddr,loadVar,run_isAggOf hT,this]
theorem pure_load_agg {cs : List AV} {off : Nat} (ho : o.op = .load T x) (hT : isAggOf P T = some true) (hk : szOf P T = some k) (hx : ρ x = some (.v c (.pc cs off))) (he : off + k ≤ cs.length) :
    Pure P w0 M0 o ρ ob (.v c (.agg ((cs.drop off).take k))) :=
  pure_value fun E w ev hw h=>by
    have hr:=h x _ hx
    simp only [SVok] at hr
    generalize hq:ev x=qx at hr
    cases hr with
    | pc b of _ _ cv hM hb hc hl hr =>
      have hget:∀ (j:Nat) d,((cs.drop off).take k)[j]?=some d→j<k∧cs[off+j]?=some d:=fun j d hd=>by
        rw [List.getElem?_take] at hd
        split at hd
        · exact ⟨‹_›,by rw [← hd,List.getElem?_drop]⟩
        · cases hd
      refine ⟨.agg ((List.range k).map fun j=>cv (off+j)).toArray,w,?_,.refl _ _,?_⟩
      · have hl := run_loadCells (P := P) w ⟨b, of + off, none⟩ k (fun j => cv (off + j)) (fun j hj => by
          rw [Addr.add_lit,← hc (off+j) (by omega)];congr 2;omega)
        simp [execOp,ho,hq,Instr.loadAt,Instr.sureAddr,loadVar,run_isAggOf hT,run_size hk,hl]
        try (apply Array.ext<;>simp)
      · refine .agg _ _ (by simp; omega) (fun j d hd => ?_) (fun j d hd => ?_)
        · exact hl _ d (hget j d hd).2
        · have := hget j d hd
          rw [List.getD_eq_getElem?_getD,List.getElem?_map,List.getElem?_range this.1]
          exact hr _ d this.2
theorem pure_field {cs : List AV} {off f fo fk : Nat} {fg : Bool} (ho : o.op = .fieldAddr T x f) (hT : fldOf P T f = some (fo, fk + 1, fg)) (hx : ρ x = some (.v c (.pc cs off))) :
    Pure P w0 M0 o ρ ob (.v c (.pc cs (off+fo))):=by
  unfold fldOf at hT
  split at hT
  · rename_i fs hs
    cases hf:fs[f]? with
    | none=>rw [hf] at hT;cases hT
    | some fd =>
      rw [hf] at hT
      simp only [Option.bind_some,Option.bind_eq_some_iff,Option.map_eq_some_iff,Prod.mk.injEq] at hT
      obtain ⟨k1,hk1,g1,hg1,hT1,hT2,_⟩:=hT
      subst hT2
      refine pure_value fun E w ev hw h=>?_
      have hr:=h x _ hx
      simp only [SVok] at hr
      generalize hq:ev x=qx at hr
      cases hr with
      | pc b of _ _ cv hM hb hc hl hr =>
        refine ⟨.pointer (some ⟨b,of+(off+fo),none⟩),w,?_,.refl _ _,.pc b of (off+fo) cs cv hM hb hc hl hr⟩
        simp [execOp,ho,hq,Instr.fieldAt,run_underlying hs,hf,Instr.sureAddr,fieldPlace,run_size hk1,Addr.add_lit,hT1,Nat.add_assoc]
  · cases hT
theorem pure_extract {vs:List AV} {i:Nat} {el:AV} (ho:o.op=.extract x i) (hx:ρ x=some (.v c (.tup vs))) (he:vs[i]?=some el):Pure P w0 M0 o ρ ob (.v c el) :=
  pure_value fun E w ev hw h=>by
    have hr:=h x _ hx
    simp only [SVok] at hr
    generalize hq:ev x=qx at hr
    cases hr with
    | tup us _ hn hr =>
      have hlt:i<us.length:=by rw [hn];exact (List.getElem?_eq_some_iff.1 he).1
      have:=hr i el he
      rw [List.getD_eq_getElem?_getD,List.getElem?_eq_getElem hlt] at this
      exact ⟨us[i],w,by simp [execOp,ho,hq,Instr.extract,hlt],.refl _ _,this⟩
end ops

inductive RV where
  | p (d:AV)
  | fresh (e:TypeId) (xs:List AV)
def RVok (P:Program) (w':World) (M:Nat→Prop) (K:Nat→Prop) (v:Value):RV→Prop
  | .p d=>Rep w' M v d
  | .fresh e xs=>∃ vals,(w'.ownsRow 0 e (P.cellsOf e) v xs.length vals∧∀ b,v.ownBlock=some b→¬ K b)∧(∀ x∈xs,(AV.cells x).length=P.cellsOf e) ∧
      ∀ (j:Nat) d,(flat xs)[j]?=some d→AV.leaf d=true∧Rep w' (fun b=>M b∨v.ownBlock=some b) (vals.getD j undef) d
def RV.data:RV→AV
  | .p d=>d
  | .fresh _ xs=>.sl xs
def Callable (P : Program) (f : FuncId) : Prop := ∃ fn, P.funcs[f]? = some fn ∧ (fn.name == "runtime.NumGoroutine") = false ∧ fn.body.isNone = false
def CallF (P : Program) (f : FuncId) (ds : List AV) (r : RV) : Prop :=
  Callable P f∧∀ (w:World) (vs:List Value),vs.length=ds.length→(∀ (j:Nat) d,ds[j]?=some d→Rep w (fun _=>False) (vs.getD j undef) d) →
    Calls P f vs.toArray w fun e w'=>∃ v,e=.returned v∧Below w.heap.size w w'∧RVok P w' (fun b=>b<w.heap.size) (fun b=>b<w.heap.size) v r
def CallN (P : Program) (f : FuncId) (ds : List AV) (r : RV) : Prop :=
  Callable P f∧∀ (w:World) (M:Nat→Prop) (vs:List Value),(∀ b,M b→b<w.heap.size)→vs.length=ds.length→(∀ (j:Nat) d,ds[j]?=some d→Rep w M (vs.getD j undef) d) →
    Calls P f vs.toArray w fun e w'=>∃ v,e=.returned v∧Below w.heap.size w w'∧RVok P w' M (fun b=>b<w.heap.size) v r

theorem RVok.rep {w':World} {M K:Nat→Prop} {v:Value} {r:RV} (h:RVok P w' M K v r) (hM:∀ b,M b→K b):Rep w' M v r.data:=by
  cases r with
  | p d=>exact h
  | fresh e xs =>
    obtain ⟨vals,h1,h2,h3⟩:=h
    obtain ⟨⟨hl,h1'⟩,hfree⟩:=h1
    rcases h1' with ⟨hv,hn⟩|⟨g,cap,cur,hv,hg,hh,hnc,hcm,hcs,htake⟩
    · subst hv
      have:xs=[]:=List.eq_nil_of_length_eq_zero hn
      subst this
      exact .sl none 0 0 [] (P.cellsOf e) (fun _=>undef) rfl (Nat.le_refl _) h2 (fun h=>absurd h (by omega)) (fun j d hd=>by simp [flat] at hd) (fun j d hd=>by simp [flat] at hd)
    · have hown : w'.ownsRow 0 e (P.cellsOf e) v xs.length vals := ⟨hl, .inr ⟨g, cap, cur, hv, hg, hh, hnc, hcm, hcs, htake⟩⟩
      subst hv
      have hob:(Value.slice (some ⟨g,0,none⟩) xs.length cap).ownBlock=some g:=rfl
      refine .sl _ _ _ _ (P.cellsOf e) (fun j=>vals.getD j undef) rfl hnc h2 (fun h0=>⟨g,0,rfl,fun hm=>hfree g hob (hM g hm),(hown.lt g hob).2,fun j hj=>?_⟩) (fun j d hd=>(h3 j d hd).1) (fun j d hd=>((h3 j d hd).2).weak (fun b hb=>.inl hb))
      have hj':j<vals.length:=by rw [hl];exact hj
      have:=hown.cells hob j vals[j] (List.getElem?_eq_getElem hj')
      rw [Addr.add_lit] at this
      rw [this,List.getD_eq_getElem?_getD,List.getElem?_eq_getElem hj'];rfl

def viewAll (ρ : Operand → Option SV) (ob : List (Nat × Ob)) : List Operand → Option (List AV)
  | []=>some []
  | x :: r => match viewAt ρ ob x, viewAll ρ ob r with
    | some (_,d),some ds=>some (d :: ds)
    | _,_=>none
theorem viewAll_ok {ρ : Operand → Option SV} {ob : List (Nat × Ob)} {E : Env} {w : World} {ev : Operand → Value} (hw : WOk P w0 M0 E ob w) (h : ∀ x e, ρ x = some e → SVok P M0 w E ob (ev x) e) :
    ∀ (xs:List Operand) (ds:List AV),viewAll ρ ob xs=some ds→xs.length=ds.length∧∀ (j:Nat) d,ds[j]?=some d→Rep w (fun _=>False) ((xs.map ev).getD j undef) d
  | [], ds, hd => by
    simp only [viewAll,Option.some.injEq] at hd
    subst hd
    exact ⟨rfl,fun j d hd=>by simp at hd⟩
  | x :: r, ds, hd => by
    unfold viewAll at hd
    split at hd
    · rename_i c d0 ds0 h1 h2
      simp only [Option.some.injEq] at hd
      subst hd
      have ih:=viewAll_ok hw h r ds0 h2
      refine ⟨by simp [ih.1],fun j d hd=>?_⟩
      cases j with
      | zero =>
        simp only [List.getElem?_cons_zero,Option.some.injEq] at hd
        subst hd
        exact (viewAt_ok hw h h1).weak (fun b hb=>hb.elim)
      | succ j=>exact ih.2 j d (by simpa using hd)
    · cases hd
theorem run_call {o:Oper} {cx:Operand} {args:Array Operand} {ats:Array TypeId} {f:FuncId} {caps:Array Value} {ev:Operand→Value} {w:World} (ho:o.op=.call { callee:=.value cx,args:=args,argTypes:=ats })
    (hc:ev cx=.func (.func f) #[] caps) (hf:Callable P f):(execOp ev o).run P w=.ok (.enter f (args.map ev++caps)) w:=by
  obtain ⟨fn,h1,h2,h3⟩:=hf
  have h3':fn.body≠none:=by intro hn;rw [hn] at h3;cases h3
  have h2' : ¬ fn.name = "runtime.NumGoroutine" := by simpa using h2
  simp [execOp,ho,resolve,hc,Deferred.ofValue,invoke,callFunc,h1,h2',h3']
theorem pure_call {o : Oper} {ρ : Operand → Option SV} {ob : List (Nat × Ob)} {cx : Operand} {args : Array Operand} {ats : Array TypeId} {c : Cls} {f : FuncId} {caps ds : List AV} {r : RV}
    (ho:o.op=.call { callee:=.value cx,args:=args,argTypes:=ats }) (hc:ρ cx=some (.v c (.clo f caps))) (ha:viewAll ρ ob args.toList=some ds) (h:CallF P f (ds++caps) r)
    (hM0:∀ b,M0 b→b<w0.w.heap.size):Pure P w0 M0 o ρ ob (.v .pl r.data):=by
  intro E w ev hw hx
  have hcv:=hx cx _ hc
  simp only [SVok] at hcv
  generalize hq:ev cx=q at hcv
  cases hcv with
  | clo _ vs _ hn hr =>
    have hv:=viewAll_ok hw hx _ _ ha
    unfold Yield
    rw [run_call ho hq h.1]
    refine ⟨rfl,?_⟩
    have hall:=h.2 w (args.toList.map ev++vs) (by simp [hv.1,hn]) (fun j d hd=>?_)
    · have e1 : (args.toList.map ev ++ vs).toArray = args.map ev ++ vs.toArray := by apply Array.ext' ; simp
      rw [e1] at hall
      refine hall.mono fun e w' ⟨v,he,hb,hrv⟩=>⟨v,he,hb.to,?_⟩
      have hrep:=hrv.rep (fun b hb=>hb)
      refine hrep.weak fun b hb'=>?_
      rcases hb' with hb'|hb'
      · have:=hM0 b hb';have:=hw.below.size;omega
      · exact (hw.owned_range hb').2
    · rw [List.getD_eq_getElem?_getD]
      rcases Nat.lt_or_ge j ds.length with hlt|hge
      · rw [List.getElem?_append_left hlt] at hd
        have:=hv.2 j d hd
        rw [List.getElem?_append_left (by simp [hv.1];omega)]
        rwa [List.getD_eq_getElem?_getD] at this
      · rw [List.getElem?_append_right hge] at hd
        have:=hr _ d hd
        rw [List.getElem?_append_right (by simp [hv.1];omega)]
        simp only [List.length_map,hv.1]
        rw [List.getD_eq_getElem?_getD] at this
        exact this.weak (fun b hb=>hb.elim)
end
end Go.Am

