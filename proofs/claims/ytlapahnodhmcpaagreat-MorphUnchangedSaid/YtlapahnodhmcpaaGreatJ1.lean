/-
  Part of the proof.
-/
import Derived.Test.YtlapahnodhmcpaaGreatJ0
import Derived.RangeFuncNested
import Derived.RangeFuncKeeps
import Derived.OrdersIn
import Derived.LoopN
import Derived.LoopNIn
import Derived.Scope
import Derived.Control
set_option linter.unusedVariables false
set_option linter.unusedSectionVars false
set_option linter.unusedSimpArgs false
set_option maxRecDepth 100000
set_option maxHeartbeats 40000000
namespace Go.Am
open Go.RowKit
def ins {α:Type}(t:Nat)(d:α):List (Nat×α)→List (Nat×α)
 | []=>[(t,d)]
 | (u,e) :: r=>if t<u then(t,d) :: (u,e) :: r else if t=u then(t,d) :: r else(u,e) :: ins t d r
theorem aj {α:Type}(u t:Nat)(d:α)(r:List (Nat×α)):List.lookup u ((t,d) :: r)=if u=t then some d else r.lookup u:=by
 by_cases h:u=t
 ·subst h;simp[List.lookup]
 ·have:(u == t)=false:=by simpa using h
  simp[List.lookup,this,h]
theorem ax {α:Type}(t u:Nat)(d:α)(l:List (Nat×α)):(ins t d l).lookup u=if u=t then some d else l.lookup u:=by
 induction l with
 | nil=>simp[ins,aj]
 | cons p r ih =>
   obtain⟨x,e⟩:=p;unfold ins;split
   · rw[aj,aj]
   · split
     · rename_i h2
       subst h2;rw[aj,aj];split<;>simp_all
     · rename_i h2
       rw[aj,ih,aj];by_cases ha:u=x
       · subst ha;simp[abi h2]
       · simp[ha]
def St.put (s:St)(t:Nat)(d:SV):St:={ s with s:=ins t d s.s }
variable{E:Env}{s:St}{v u:Value}{M:Nat→Prop}
section
variable {P:Program} {w0:Fr}{M0:Nat→Prop}
theorem ba.put {a:Act}{w:World}(h:ba P w0 M0 E s a w){t:Nat}(ht:t<s.n){d:SV}(hv:bm P M0 w E s.o v d) :
  ba P w0 M0 E (s.put t d) (a.put (some t) v) w:=by
 refine⟨by simpa[Act.put,St.put] using h.size,h.defers.same J fun _ h=>h,fun u e he=>?_,h.wok⟩;simp only[St.put] at he ⊢;rw[ax] at he;by_cases hu:u=t
 ·subst hu;simp only[if_true,aaj] at he;subst he;refine⟨ht,?_⟩;have:(a.put (some u) v).tmps.getD u undef=v:=by
   have:=h.size;simp[Act.put,aaL,this,ht]
  rw[this];exact hv
 ·rw[if_neg hu] at he;have:=h.slots u e he;refine⟨this.1,?_⟩;have hq:(a.put (some t) v).tmps.getD u undef=a.tmps.getD u undef:=by
   simp[Act.put,aaL,abi hu]
  rw[hq];exact this.2
def BC:Value→Option AV
 | .agg cs=>bif cs.toList.all Value.oneCell' then some (.agg (cs.toList.map .sc)) else none
 | .tuple _=>none
 | v=>some (.sc v)
def St.ev (s:St):Operand→Option SV
 | .tmp t=>s.s.lookup t
 | .const v=>(BC v).map (.v .pl)
 | .func f=>some (.v .pl (.clo f []))
 | .global _=>none
theorem xd {w:World}   {d:AV} (h:BC v=some d):bJ w M v d:=by
 unfold BC at h;split at h
 · rename_i cs
   cases hc:cs.toList.all Value.oneCell'
   · simp[hc] at h
   · simp only [hc, cond_true, aaj] at h
     subst h;rw[aaF] at hc;have:=bJ.agg (w:=w) (M:=M) cs.toList (cs.toList.map .sc) (by simp) (fun j d hd=>by
         simp at hd;obtain⟨x,_,rfl⟩:=hd;rfl) (fun j d hd=>by
         rw[aap] at hd;cases hx:cs.toList[j]? with
         | none=>simp[hx] at hd
         | some x =>
           rw[hx] at hd;simp only[aa3,aaj] at hd;subst hd;rw[aag,hx];exact .sc x (hc x (aaW hx)))
     simpa using this
 · cases h
 · simp only [aaj] at h
   subst h;exact .sc v (by cases v<;>simp_all [Value.oneCell'])
theorem ba.ev {a:Act}{w:World}(h:ba P w0 M0 E s a w){x:Operand}{d:SV}(hx:s.ev x=some d):bm P M0 w E s.o (a.eval x) d:=by
 cases x with
 | tmp t=>exact(h.slots t d hx).2
 | const v =>
   simp only[St.ev,aao] at hx;obtain⟨e,he,rfl⟩:=hx;exact xd he
 | func f =>
   simp only[St.ev,aaj] at hx;subst hx;exact .clo f [] [] J (fun j d hd=>by simp at hd)
 | global g=>cases hx
def sQ (P:Program)(ev:Operand→Value)(o:Oper)(w:World)(R:Value→World→Prop):Prop :=
 match(execOp ev o).run P w with
 | .ok (.value v) w'=>R v w'
 | .ok (.enter f args) w'=>w'=w∧Calls P f args w (fun e w''=>∃v,e=.returned v∧R v w'')
 | _=>False
def Pure (P:Program)(w0:Fr)(M0:Nat→Prop)(o:Oper)(ρ:Operand→Option SV)(ob:List (Nat×Ob))(d:SV):Prop :=
 ∀ (E : Env) (w : World) (ev : Operand → Value), gr P w0 M0 E ob w → (∀ x e, ρ x = some e → bm P M0 w E ob (ev x) e) →
   sQ P ev o w (fun v w'=>bB w0.dr w.heap.size w w'∧bm P M0 w' E ob v d)
def Step (P:Program)(w0:Fr)(M0:Nat→Prop)(o:Oper)(s s':St):Prop :=
 ∀a w Q,pE P w0 M0 s a w→o.wp P a w (fun a' w'=>pE P w0 M0 s' a' w') Q
theorem lR {o:Oper}{t:Nat}{d:SV}(hd:o.dst=some t)(ht:t<s.n)(h:Pure P w0 M0 o s.ev s.o d):Step P w0 M0 o s (s.put t d):=by
 rintro a w Q ⟨E,hs⟩;have hy:=h E w a.eval hs.wok (fun x e hx=>hs.ev hx);unfold sQ at hy;unfold Oper.wp;generalize (execOp a.eval o).run P w=r at *
 match r,hy with
 | .ok (.value v) w', hy =>
   simp only[Oper.upon,hd];exact⟨E,(hs.grow hy.1).put ht hy.2⟩
 | .ok (.enter f args) w', hy =>
   obtain⟨rfl,hc⟩:=hy;simp only[Oper.upon];refine hc.mono fun e w'' ⟨v,he,hb,hv⟩=>?_
   subst he;rw[hd];exact⟨E,(hs.grow hb).put ht hv⟩
theorem aD {o:Oper}{ρ:Operand→Option SV}{ob:List (Nat×Ob)}{d:SV}
  (h : ∀(E : Env)(w : World)(ev : Operand → Value), gr P w0 M0 E ob w → (∀x e, ρ x = some e → bm P M0 w E ob (ev x) e) →
   ∃v w',(execOp ev o).run P w=.ok (.value v) w'∧bB w0.dr w.heap.size w w'∧bm P M0 w' E ob v d):Pure P w0 M0 o ρ ob d:=by
 intro E w ev hw hx;obtain⟨v,w',h1,h2⟩:=h E w ev hw hx;unfold sQ;rw[h1];exact h2
section ops
variable {o:Oper} {ρ:Operand→Option SV}{ob:List (Nat×Ob)}{d:SV}{x y:Operand}
theorem cH (ho:o.op=.move x)(hx:ρ x=some d):Pure P w0 M0 o ρ ob d :=
 aD fun E w ev hw h=>⟨ev x,w,by simp[execOp,ho],.refl _ _,h x d hx⟩
theorem hU (ho:o.op=.assign x)(hx:ρ x=some d):Pure P w0 M0 o ρ ob d :=
 aD fun E w ev hw h=>⟨ev x,w,by simp[execOp,ho],.refl _ _,h x d hx⟩
def SV.val:SV→Option Value
 | .v _ (.sc u)=>some u
 | _=>none
theorem bm.val {w:World}{o:List (Nat×Ob)}{d:SV}(h:bm P M0 w E o v d)(hd:d.val=some u):v=u:=by
 cases d with
 | v c d =>
   cases d with
   | sc z =>
     simp only[SV.val,aaj] at hd;subst hd;cases h;rfl
   | _=>cases hd
 | _=>cases hd
def aZ (ρ:Operand→Option SV)(x:Operand):Option Value:=(ρ x).bind SV.val
theorem bK {w:World}{ev:Operand→Value}(h:∀x e,ρ x=some e→bm P M0 w E ob (ev x) e)(hx:aZ ρ x=some u):ev x=u:=by
 unfold aZ at hx;cases hr:ρ x with
 | none=>rw[hr] at hx;cases hx
 | some e=>rw[hr] at hx;exact(h x e hr).val hx
theorem Rz {w:World}{o:List (Nat×Ob)}{c:fW}(h:v.oneCell'=true):bm P M0 w E o v (.v c (.sc v)):=.sc v h
theorem nA (hu:u.oneCell'=true)(h:∀(w:World)(ev:Operand→Value),(∀x v,aZ ρ x=some v→ev x=v)→(execOp ev o).run P w=.ok (.value u) w) :
  Pure P w0 M0 o ρ ob (.v .pl (.sc u)) :=
 aD fun E w ev hw hx=>⟨u,w,h w ev (fun x v hv=>bK hx hv),.refl _ _,Rz hu⟩
section
variable {op:BinOp} {T T':TypeId}{k:IntKind}{a b:Int}
theorem dG {va vb:Value}(ho:o.op=.binOp op T x y T')(hx:aZ ρ x=some va)(hy:aZ ρ y=some vb)(hu:u.oneCell'=true)
  (hg:eqGuard op T x y va vb=pure ())(hb:∀w,(binOp op T va vb).run P w=.ok u w):Pure P w0 M0 o ρ ob (.v .pl (.sc u)) :=
 nA hu fun w ev h=>by simp[execOp,ho,h x va hx,h y vb hy,hg,hb]
theorem Lk (ho:o.op=.binOp .add T x y T')(hx:aZ ρ x=some (.int k a))(hy:aZ ρ y=some (.int k b)):Pure P w0 M0 o ρ ob (.v .pl (.sc (.int k (k.wrap (a+b))))) :=
 dG ho hx hy rfl (by simp[go_sem]) (fun w=>by simp[go_sem])
theorem Ll (ho:o.op=.binOp .sub T x y T')(hx:aZ ρ x=some (.int k a))(hy:aZ ρ y=some (.int k b)):Pure P w0 M0 o ρ ob (.v .pl (.sc (.int k (k.wrap (a-b))))) :=
 dG ho hx hy rfl (by simp[go_sem]) (fun w=>by simp[go_sem])
theorem Lm (ho:o.op=.binOp .mul T x y T')(hx:aZ ρ x=some (.int k a))(hy:aZ ρ y=some (.int k b)):Pure P w0 M0 o ρ ob (.v .pl (.sc (.int k (k.wrap (a*b))))) :=
 dG ho hx hy rfl (by simp[go_sem]) (fun w=>by simp[go_sem])
theorem Ln (ho:o.op=.binOp .quo T x y T')(hx:aZ ρ x=some (.int k a))(hy:aZ ρ y=some (.int k b))(hb:b≠0):Pure P w0 M0 o ρ ob (.v .pl (.sc (.int k (k.wrap (a.tdiv b))))) :=
 dG ho hx hy rfl (by simp[go_sem]) (fun w=>by simp[go_sem,Op.intDiv,hb])
theorem Lo (ho:o.op=.binOp .rem T x y T')(hx:aZ ρ x=some (.int k a))(hy:aZ ρ y=some (.int k b))(hb:b≠0):Pure P w0 M0 o ρ ob (.v .pl (.sc (.int k (a.tmod b)))) :=
 dG ho hx hy rfl (by simp[go_sem]) (fun w=>by simp[go_sem,Op.intDiv,hb])
theorem Lp (ho:o.op=.binOp .lss T x y T')(hx:aZ ρ x=some (.int k a))(hy:aZ ρ y=some (.int k b)):Pure P w0 M0 o ρ ob (.v .pl (.sc (.bool (decide (a<b))))) :=
 dG ho hx hy rfl (by simp[go_sem]) (fun w=>by simp[go_sem])
theorem Lq (ho:o.op=.binOp .leq T x y T')(hx:aZ ρ x=some (.int k a))(hy:aZ ρ y=some (.int k b)):Pure P w0 M0 o ρ ob (.v .pl (.sc (.bool (decide (a≤b))))) :=
 dG ho hx hy rfl (by simp[go_sem]) (fun w=>by simp[go_sem])
theorem Lr (ho:o.op=.binOp .gtr T x y T')(hx:aZ ρ x=some (.int k a))(hy:aZ ρ y=some (.int k b)):Pure P w0 M0 o ρ ob (.v .pl (.sc (.bool (decide (b<a))))) :=
 dG ho hx hy rfl (by simp[go_sem]) (fun w=>by simp[go_sem])
theorem Ls (ho:o.op=.binOp .geq T x y T')(hx:aZ ρ x=some (.int k a))(hy:aZ ρ y=some (.int k b)):Pure P w0 M0 o ρ ob (.v .pl (.sc (.bool (decide (b≤a))))) :=
 dG ho hx hy rfl (by simp[go_sem]) (fun w=>by simp[go_sem])
theorem jO (ho:o.op=.binOp .eql T x y T')(hx:aZ ρ x=some (.int k a))(hy:aZ ρ y=some (.int k b)):Pure P w0 M0 o ρ ob (.v .pl (.sc (.bool (decide (a=b))))) :=
 dG ho hx hy rfl (by simp[go_sem]) (fun w=>by simp only[binOp_eql,Sem.run_pure];congr)
theorem cZ (ho:o.op=.binOp .neq T x y T')(hx:aZ ρ x=some (.int k a))(hy:aZ ρ y=some (.int k b)):Pure P w0 M0 o ρ ob (.v .pl (.sc (.bool (!decide (a=b))))) :=
 dG ho hx hy rfl (by simp[go_sem]) (fun w=>by simp only[binOp_neq,Sem.run_pure];congr)
theorem Ab {c:Operand}{z:Bool}(ho:o.op=.pick c x y)(hc:aZ ρ c=some (.bool z))(hx:ρ (bif z then x else y)=some d):Pure P w0 M0 o ρ ob d :=
 aD fun E w ev hw h=>⟨ev (bif z then x else y),w,by cases z<;>simp[execOp,ho,bK h hc,asBool],.refl _ _,h _ d hx⟩
end
end ops
end
open Go.RowKit
def bY (P:Program)(t:TypeId):Option Nat:=(P.info? t).map (·.size)
def bo (P:Program)(t:TypeId):Option Bool:=(P.underlying t).map fun|.struct _|.array _ _=>true|_=>false
def pv (P:Program)(t:TypeId)(f:Nat):Option (Nat×Nat×Bool) :=
 match P.underlying t with
 | some (.struct fs)=>(fs[f]?).bind fun f=>(bY P f.type).bind fun k=>(bo P f.type).map fun g=>(f.offset,k,g)
 | _=>none
variable{t:TypeId}
theorem cL {P:Program}{k:Nat}(h:bY P t=some k):P.cellsOf t=k:=by unfold bY at h;unfold Program.cellsOf;rw[h];rfl
theorem dt {P:Program}{k:Nat}(h:bY P t=some k)(w:World):(sizeOf t).run P w=.ok k w:=by
 unfold bY at h;cases hi:P.info? t with
 | none=>rw[hi] at h;cases h
 | some i=>rw[hi] at h;simp only[aa3,aaj] at h;subst h;simp[sizeOf,typeInfo,hi]
theorem dj {P:Program}{b:Bool}(h:bo P t=some b)(w:World):(isAgg t).run P w=.ok b w:=by
 unfold bo at h;cases hi:P.underlying t with
 | none=>rw[hi] at h;cases h
 | some d =>
   rw[hi] at h;simp only[aa3,aaj] at h;subst h;simp only[isAgg,Sem.run_bind,run_underlying hi,Result.andThen_ok];cases d<;>rfl
theorem bO {k:Nat}:∀(xs:List AV),(∀x∈xs,(AV.cells x).length=k)→(flat xs).length=xs.length*k
 | [],_=>by simp[flat]
 | x :: r, h => by
   have ih:=bO r (fun y hy=>h y (aav _ hy));have hx:=h x aaq;simp only[flat,abt,aar,aam] at ih ⊢;rw[ih,hx,acg];omega
theorem flat_get {k:Nat}:∀(xs:List AV)(i:Nat)(el:AV),(∀x∈xs,(AV.cells x).length=k)→xs[i]?=some el→∀j,j<k→(flat xs)[i*k+j]?=(AV.cells el)[j]?
 | [],i,el,_,h,_,_=>by simp at h
 | x :: r, 0, el, hk, h, j, hj => by
   simp only[aaN,aaj] at h;subst h;have hx:=hk x aaq;simp only[flat,abt,Nat.zero_mul,abg];rw[aaH acK]
 | x :: r, i + 1, el, hk, h, j, hj => by
   have hx:=hk x aaq;have ih:=flat_get r i el (fun y hy=>hk y (aav _ hy)) (by simpa using h) j hj;simp only[flat,abt] at ih ⊢;rw[aaE (by rw[hx,acg];omega),hx,←ih]
   congr 1
   rw[acg];omega
variable{xs cs:List AV}{el:AV}{off i:Nat}{f:FuncId}
section
variable {P:Program} {w0:Fr}{M0:Nat→Prop}
theorem kT.rep {w:World}{o:List (Nat×Ob)}{id:Nat}{e:TypeId}(h:kT P w0 M0 w E o id (.arr e xs))
  (hM:∀b,M b→cB M0 (owned E o) .pl b)(hb:∀g,(E.cur id).ownBlock=some g→¬M g):bJ w M (E.cur id) (.sl xs):=by
 obtain⟨vals,h1,h2,h3⟩:=h;have hfl:=bO xs h2;obtain⟨⟨hl,h1'⟩,hfree⟩:=h1;rcases h1' with⟨hv,hn⟩|⟨g,cap,cur,hv,hg,hh,hnc,hcm,hcs,htake⟩
 ·rw[hv];have:xs=[]:=aaD hn;subst this;exact .sl none 0 0 [] (P.cellsOf e) (fun _=>undef) J (aak _) h2 (fun h=>absurd h acK) (fun j d hd=>by simp[flat] at hd) (fun j d hd=>by simp[flat] at hd)
 ·rw[hv];have hown:w.ownsRow 0 e (P.cellsOf e) (E.cur id) xs.length vals:=⟨hl,.inr ⟨g,cap,cur,hv,hg,hh,hnc,hcm,hcs,htake⟩⟩;have hob:(E.cur id).ownBlock=some g:=by rw[hv];rfl
  refine .sl _ _ _ _ (P.cellsOf e) (fun j=>vals.getD j undef) J hnc h2 (fun h0=>⟨g,0,rfl,hb g hob,(hown.lt g hob).2,fun j hj=>?_⟩) (fun j d hd=>(h3 j d hd).1) (fun j d hd=>((h3 j d hd).2).cd hM);have hj':j<vals.length:=by rw[hl];exact hj
  have:=hown.cells hob j vals[j] (aal hj');rw[Addr.add_lit] at this;rw[this,aag,aal hj'];rfl
def view (ob:List (Nat×Ob)):SV→Option (fW×AV)
 | .v _ (.sc (.slice none 0 0))=>some (.pl,.sl [])
 | .v _ (.sc v)=>some (.pl,.sc v)
 | .v c d=>some (c,d)
 | .own id => match ob.lookup id with
   | some (.arr _ xs)=>some (.vw,.sl xs)
   | _=>none
 | .omap id => match ob.lookup id with
   | some (.mp ks vs)=>some (.vw,.mp ks vs)
   | _=>none
 | _=>none
theorem HL {w:World}{ob:List (Nat×Ob)}{s:SV}{c:fW}{d:AV}(hw:gr P w0 M0 E ob w)(h:bm P M0 w E ob v s)(hv:view ob s=some (c,d)) :
  bJ w (cB M0 (owned E ob) c) v d:=by
 unfold view at hv;split at hv
 ·simp only[aaj,abk] at hv;obtain⟨rfl,rfl⟩:=hv;cases h;exact .sl none 0 0 [] 0 (fun _=>undef) J (aak _) (by simp) (fun h=>absurd h acK) (fun j d hd=>by simp[flat] at hd) (fun j d hd=>by simp[flat] at hd)
 ·simp only[aaj,abk] at hv;obtain⟨rfl,rfl⟩:=hv;cases h;exact .sc _ ‹_›
 ·simp only[aaj,abk] at hv;obtain⟨rfl,rfl⟩:=hv;exact h
 ·rename_i id;split at hv
  ·rename_i e xs hl;simp only[aaj,abk] at hv;obtain⟨rfl,rfl⟩:=hv;rw[h e xs hl];exact(hw.objs id _ hl).rep (fun b hb=>hb.elim) (fun g _ hf=>hf.elim)
  ·cases hv
 ·rename_i id;split at hv
  ·rename_i ks vs hl;simp only[aaj,abk] at hv;obtain⟨rfl,rfl⟩:=hv;rw[h ks vs hl];have hlt:=((hw.objs id _ hl).dx rfl).2;obtain⟨es,clock,h1,h2,h3,h4,h5⟩:=hw.objs id _ hl;exact .mp _ es clock ks vs (fun h=>h) hlt h1 h3 h4 fun j d hd=>(h5 j d hd).cd fun b hb=>hb.elim
  ·cases hv
 ·cases hv
section ops
variable {o:Oper} {ρ:Operand→Option SV}{ob:List (Nat×Ob)}{d:SV}{x y:Operand}{T T':TypeId}{e:TypeId}{k:Nat}{c:fW}
def viewAt (ρ:Operand→Option SV)(ob:List (Nat×Ob))(x:Operand):Option (fW×AV):=(ρ x).bind (view ob)
theorem cz {w:World}{ev:Operand→Value}(hw:gr P w0 M0 E ob w)(h:∀x e,ρ x=some e→bm P M0 w E ob (ev x) e){c:fW}{d:AV}(hx:viewAt ρ ob x=some (c,d)) :
  bJ w (cB M0 (owned E ob) c) (ev x) d:=by
 unfold viewAt at hx;cases hr:ρ x with
 | none=>rw[hr] at hx;cases hx
 | some s=>rw[hr] at hx;exact HL hw (h x s hr) hx
theorem Di (ho:o.op=.call { callee:=.builtin .len,args:=#[x],argTypes:=#[T] })(hT:P.underlying T=some (.slice e))(hx:viewAt ρ ob x=some (c,.sl xs)) :
   Pure P w0 M0 o ρ ob (.v .pl (.sc (.int .i64 xs.length))) :=
 aD fun E w ev hw h=>by
   have hr:=cz hw h hx;generalize hq:ev x=q at hr;cases hr with
   | sl a n cap _ k cv hn hc hk hb hl hr =>
     refine⟨.int .i64 xs.length,w,?_,.refl _ _,Rz J⟩;subst hn;simp[execOp,ho,resolve,hq,invoke,builtin,Builtin.len_,run_underlying hT,goInt]
theorem FX {q:IntKind}{i:Int}(ho:o.op=.indexAddr T x y)(hT:P.underlying T=some (.slice e))(hk:bY P e=some k)
   (hx:viewAt ρ ob x=some (c,.sl xs))(hy:aZ ρ y=some (.int q i))(h0:0≤i)(he:xs[i.toNat]?=some el)(hc:(AV.cells el).length=k) :
   Pure P w0 M0 o ρ ob (.v c (.pc (AV.cells el) 0)) :=
 aD fun E w ev hw h=>by
   have hr:=cz hw h hx;have hi:=bK h hy;generalize hq:ev x=qx at hr;cases hr with
   | sl a n cap _ k' cv hn hnc hk' hb hl hr =>
     have hlt:i.toNat<xs.length:=(aaz.1 he).1;have hkk:k'=k:=by rw[←hc];exact(hk' el (aaW he)).symm
     subst hkk;obtain⟨b,of,rfl,hM,hbs,hcells⟩:=hb acK;have hmul:i.toNat*k'+k'≤n*k':=by rw[←acw];exact abl _ acK
     refine⟨.pointer (some ⟨b,of+i.toNat*k'+0,none⟩),w,?_,.refl _ _,?_⟩
     · have hin : 0 ≤ i ∧ i < (n : Int) := acK
       have hel:P.elem T=e:=by simp[Program.elem,hT]
       simp[execOp,ho,hq,hi,run_indexAt_slice,hel,hT,hin,dt hk,Addr.add_lit]
     · have hg := flat_get xs i.toNat el hk' he
       refine .pc b _ 0 _ (fun j=>cv (i.toNat*k'+j)) hM hbs (fun j hj=>?_) (fun j d hd=>?_) (fun j d hd=>?_)
       · have := hcells (i.toNat * k' + j) acK
         rw[←this];congr 2;omega
       · have hj : j < k' := by rw [← hc]; exact (aaz.1 hd).1
         exact hl (i.toNat*k'+j) d (by rw[hg j hj];exact hd)
       · have hj : j < k' := by rw [← hc]; exact (aaz.1 hd).1
         exact hr (i.toNat*k'+j) d (by rw[hg j hj];exact hd)
theorem Ac (ho:o.op=.load T x)(hT:bo P T=some false)(hx:ρ x=some (.v c (.pc cs off)))(he:cs[off]?=some el) :
   Pure P w0 M0 o ρ ob (.v c el) :=
 aD fun E w ev hw h=>by
   have hr:=h x _ hx;simp only[bm] at hr;generalize hq:ev x=qx at hr;cases hr with
   | pc b of _ _ cv hM hb hc hl hr =>
     refine⟨cv off,w,?_,.refl _ _,hr off el he⟩;have:=hc off (aaz.1 he).1;simp[execOp,ho,hq,Instr.loadAt,Instr.sureAddr,loadVar,dj hT,this]
theorem aG (ho:o.op=.load T x)(hT:bo P T=some true)(hk:bY P T=some k)(hx:ρ x=some (.v c (.pc cs off)))(he:off+k≤cs.length) :
   Pure P w0 M0 o ρ ob (.v c (.agg ((cs.drop off).take k))) :=
 aD fun E w ev hw h=>by
   have hr:=h x _ hx;simp only[bm] at hr;generalize hq:ev x=qx at hr;cases hr with
   | pc b of _ _ cv hM hb hc hl hr =>
     have hget:∀(j:Nat) d,((cs.drop off).take k)[j]?=some d→j<k∧cs[off+j]?=some d:=fun j d hd=>by
       rw[aa1] at hd;split at hd
       · exact⟨‹_›,by rw[←hd,abE]⟩
       · cases hd
     refine⟨.agg ((List.range k).map fun j=>cv (off+j)).toArray,w,?_,.refl _ _,?_⟩
     · have hl := run_loadCells (P := P) w ⟨b, of + off, none⟩ k (fun j => cv (off + j)) (fun j hj => by
         rw[Addr.add_lit,←hc (off+j) acK];congr 2;omega)
       simp[execOp,ho,hq,Instr.loadAt,Instr.sureAddr,loadVar,dj hT,dt hk,hl]
       try (apply Array.ext<;>simp)
     · refine .agg _ _ (by simp; omega) (fun j d hd => ?_) (fun j d hd => ?_)
       · exact hl _ d (hget j d hd).2
       · have := hget j d hd
         rw[aag,aap,abr this.1];exact hr _ d this.2
theorem FY {f fo fk:Nat}{fg:Bool}(ho:o.op=.fieldAddr T x f)(hT:pv P T f=some (fo,fk+1,fg))(hx:ρ x=some (.v c (.pc cs off))) :
   Pure P w0 M0 o ρ ob (.v c (.pc cs (off+fo))):=by
 unfold pv at hT;split at hT
 · rename_i fs hs
   cases hf:fs[f]? with
   | none=>rw[hf] at hT;cases hT
   | some fd =>
     rw[hf] at hT;simp only[abO,abc,aao,abk] at hT;obtain⟨k1,hk1,g1,hg1,UB,Xt,_⟩:=hT;subst Xt;refine aD fun E w ev hw h=>?_
     have hr:=h x _ hx;simp only[bm] at hr;generalize hq:ev x=qx at hr;cases hr with
     | pc b of _ _ cv hM hb hc hl hr =>
       refine⟨.pointer (some ⟨b,of+(off+fo),none⟩),w,?_,.refl _ _,.pc b of (off+fo) cs cv hM hb hc hl hr⟩;simp[execOp,ho,hq,Instr.fieldAt,run_underlying hs,hf,Instr.sureAddr,fieldPlace,dt hk1,Addr.add_lit,UB,Nat.add_assoc]
 · cases hT
theorem BD {vs:List AV}(ho:o.op=.extract x i)(hx:ρ x=some (.v c (.tup vs)))(he:vs[i]?=some el):Pure P w0 M0 o ρ ob (.v c el) :=
 aD fun E w ev hw h=>by
   have hr:=h x _ hx;simp only[bm] at hr;generalize hq:ev x=qx at hr;cases hr with
   | tup us _ hn hr =>
     have hlt:i<us.length:=by rw[hn];exact(aaz.1 he).1
     have:=hr i el he;rw[aag,aal hlt] at this;exact⟨us[i],w,by simp[execOp,ho,hq,Instr.extract,hlt],.refl _ _,this⟩
end ops
inductive RV where
 | p (d:AV)
 | fresh (e:TypeId)(xs:List AV)
def iJ (P:Program)(w':World)(M:Nat→Prop)(K:Nat→Prop)(v:Value):RV→Prop
 | .p d=>bJ w' M v d
 | .fresh e xs=>∃vals,(w'.ownsRow 0 e (P.cellsOf e) v xs.length vals∧∀b,v.ownBlock=some b→¬K b)∧(∀x∈xs,(AV.cells x).length=P.cellsOf e) ∧
  ∀(j:Nat) d,(flat xs)[j]?=some d→AV.leaf d=true∧bJ w' (fun b=>M b∨v.ownBlock=some b) (vals.getD j undef) d
def RV.data:RV→AV
 | .p d=>d
 | .fresh _ xs=>.sl xs
def cg (P : Program) (f : FuncId) : Prop := ∃ fn, P.funcs[f]? = some fn ∧ (fn.name == "runtime.NumGoroutine") = false ∧ fn.body.isNone = false
def ak (P:Program)(f:FuncId)(ds:List AV)(r:RV):Prop :=
 cg P f∧∀(w:World)(vs:List Value),vs.length=ds.length→(∀(j:Nat) d,ds[j]?=some d→bJ w (fun _=>False) (vs.getD j undef) d) →
   Calls P f vs.toArray w fun e w'=>∃v,e=.returned v∧Below w.heap.size w w'∧iJ P w' (fun b=>b<w.heap.size) (fun b=>b<w.heap.size) v r
def aU (P:Program)(f:FuncId)(ds:List AV)(r:RV):Prop :=
 cg P f∧∀(w:World)(M:Nat→Prop)(vs:List Value),(∀b,M b→b<w.heap.size)→vs.length=ds.length→(∀(j:Nat) d,ds[j]?=some d→bJ w M (vs.getD j undef) d) →
   Calls P f vs.toArray w fun e w'=>∃v,e=.returned v∧Below w.heap.size w w'∧iJ P w' M (fun b=>b<w.heap.size) v r
theorem iJ.rep {w':World}{K:Nat→Prop}{r:RV}(h:iJ P w' M K v r)(hM:∀b,M b→K b):bJ w' M v r.data:=by
 cases r with
 | p d=>exact h
 | fresh e xs =>
   obtain⟨vals,h1,h2,h3⟩:=h;obtain⟨⟨hl,h1'⟩,hfree⟩:=h1;rcases h1' with⟨hv,hn⟩|⟨g,cap,cur,hv,hg,hh,hnc,hcm,hcs,htake⟩
   · subst hv
     have:xs=[]:=aaD hn;subst this;exact .sl none 0 0 [] (P.cellsOf e) (fun _=>undef) J (aak _) h2 (fun h=>absurd h acK) (fun j d hd=>by simp[flat] at hd) (fun j d hd=>by simp[flat] at hd)
   · have hown : w'.ownsRow 0 e (P.cellsOf e) v xs.length vals := ⟨hl, .inr ⟨g, cap, cur, hv, hg, hh, hnc, hcm, hcs, htake⟩⟩
     subst hv;have hob:(Value.slice (some ⟨g,0,none⟩) xs.length cap).ownBlock=some g:=rfl;refine .sl _ _ _ _ (P.cellsOf e) (fun j=>vals.getD j undef) J hnc h2 (fun h0=>⟨g,0,rfl,fun hm=>hfree g hob (hM g hm),(hown.lt g hob).2,fun j hj=>?_⟩) (fun j d hd=>(h3 j d hd).1) (fun j d hd=>((h3 j d hd).2).cd (fun b hb=>.inl hb));have hj':j<vals.length:=by rw[hl];exact hj
     have:=hown.cells hob j vals[j] (aal hj');rw[Addr.add_lit] at this;rw[this,aag,aal hj'];rfl
def jg (ρ:Operand→Option SV)(ob:List (Nat×Ob)):List Operand→Option (List AV)
 | []=>some []
 | x :: r => match viewAt ρ ob x, jg ρ ob r with
   | some (_,d),some ds=>some (d :: ds)
   | _,_=>none
theorem l5 {ρ:Operand→Option SV}{ob:List (Nat×Ob)}{E:Env}{w:World}{ev:Operand→Value}(hw:gr P w0 M0 E ob w)(h:∀x e,ρ x=some e→bm P M0 w E ob (ev x) e) :
   ∀(xs:List Operand)(ds:List AV),jg ρ ob xs=some ds→xs.length=ds.length∧∀(j:Nat) d,ds[j]?=some d→bJ w (fun _=>False) ((xs.map ev).getD j undef) d
 | [], ds, hd => by
   simp only[jg,aaj] at hd;subst hd;exact⟨rfl,fun j d hd=>by simp at hd⟩
 | x :: r, ds, hd => by
   unfold jg at hd;split at hd
   · rename_i c d0 ds0 h1 h2
     simp only[aaj] at hd;subst hd;have ih:=l5 hw h r ds0 h2;refine⟨by simp[ih.1],fun j d hd=>?_⟩;cases j with
     | zero =>
       simp only[aaN,aaj] at hd;subst hd;exact(cz hw h h1).cd (fun b hb=>hb.elim)
     | succ j=>exact ih.2 j d (by simpa using hd)
   · cases hd
theorem fE {o:Oper}{cx:Operand}{args:Array Operand}{ats:Array TypeId}{caps:Array Value}{ev:Operand→Value}{w:World}(ho:o.op=.call { callee:=.value cx,args:=args,argTypes:=ats })
  (hc:ev cx=.func (.func f) #[] caps)(hf:cg P f):(execOp ev o).run P w=.ok (.enter f (args.map ev++caps)) w:=by
 obtain⟨fn,h1,h2,h3⟩:=hf;have h3':fn.body≠none:=by intro hn;rw[hn] at h3;cases h3
 have h2' : ¬ fn.name = "runtime.NumGoroutine" := by simpa using h2
 simp[execOp,ho,resolve,hc,Deferred.ofValue,invoke,callFunc,h1,h2',h3']
theorem cm {o:Oper}{ρ:Operand→Option SV}{ob:List (Nat×Ob)}{cx:Operand}{args:Array Operand}{ats:Array TypeId}{c:fW}{caps ds:List AV}{r:RV}
   (ho:o.op=.call { callee:=.value cx,args:=args,argTypes:=ats })(hc:ρ cx=some (.v c (.clo f caps)))(ha:jg ρ ob args.toList=some ds)(h:ak P f (ds++caps) r)
   (aa:∀b,M0 b→b<w0.w.heap.size):Pure P w0 M0 o ρ ob (.v .pl r.data):=by
 intro E w ev hw hx;have hcv:=hx cx _ hc;simp only[bm] at hcv;generalize hq:ev cx=q at hcv;cases hcv with
 | clo _ vs _ hn hr =>
   have hv:=l5 hw hx _ _ ha;unfold sQ;rw[fE ho hq h.1];refine⟨rfl,?_⟩;have hall:=h.2 w (args.toList.map ev++vs) (by simp[hv.1,hn]) (fun j d hd=>?_)
   · have e1 : (args.toList.map ev ++ vs).toArray = args.map ev ++ vs.toArray := by apply ab1 ; simp
     rw[e1] at hall;refine hall.mono fun e w' ⟨v,he,hb,hrv⟩=>⟨v,he,hb.to,?_⟩
     have hrep:=hrv.rep (fun b hb=>hb);refine hrep.cd fun b hb'=>?_
     rcases hb' with hb'|hb'
     · have:=aa b hb';have:=hw.below.size;omega
     · exact(hw.bF hb').2
   · rw [aag]
     rcases aaK j ds.length with hlt|hge
     · rw [aaH hlt] at hd
       have:=hv.2 j d hd;rw[aaH (by simp[hv.1];omega)];rwa [aag] at this
     · rw [aaE hge] at hd
       have:=hr _ d hd;rw[aaE (by simp[hv.1];omega)];simp only[aai,hv.1];rw[aag] at this;exact this.cd (fun b hb=>hb.elim)
end
variable{args:Array Value}{ops:Array Oper}
section
variable {P:Program} {Q:Exit→Act→World→Prop}{a:Act}{w:World}{l:Nat}{o:Oper}{K:Act→World→Prop}
theorem Calls.Lt {R:Ending→World→Prop}(h:Calls P f args w R):∃e w',R e w':=let⟨e,w',_,r,_⟩:=h [];⟨e,w',r⟩
theorem Rows.Lt {r:String}{R:Value→World→Prop}(h:Rows P r args w R):∃v w',R v w':=let⟨v,w',r,_⟩:=h default [];⟨v,w',r⟩
theorem put_defers (a:Act)(d:Option Tmp)(v:Value):(a.put d v).defers=a.defers:=by cases d<;>rfl
structure Calm (Q:Exit→Act→World→Prop):Prop where
 only:∀e a w,Q e a w→e=.normal
 none:∀e a w,Q e a w→a.defers=[]
theorem Calm.out (hQ:Calm Q)(h:LetsOut Q):False:=let⟨_,_,h⟩:=h;nomatch hQ.only _ _ _ h
theorem Calm.panic (hQ:Calm Q) {ch}(h:Q (.panic ch) a w):False:=nomatch hQ.only _ _ _ h
theorem vp (hQ:Calm Q)(hK:∀a w,K a w→a.defers=[]){r:Result Next}(h:o.upon P a K Q r):a.defers=[]:=by
 cases r with
 | ok x w' =>
   cases x with
   | value v=>exact(put_defers _ _ _).symm.trans (hK _ _ h)
   | skip=>exact(put_defers _ _ _).symm.trans (hK _ _ h)
   | defer d=>exact absurd ((put_defers _ _ _).symm.trans (hK _ _ h)) (by simp)
   | enter f args =>
     obtain⟨e,w'',h⟩:=Calls.Lt (show Calls P f args w' _ from h);cases e with
     | returned v=>exact(put_defers _ _ _).symm.trans (hK _ _ h)
     | panicked ch=>exact(hQ.panic h).elim
     | outgrown=>exact(hQ.out h).elim
   | row r args =>
     obtain⟨v,w'',h⟩:=Rows.Lt (show Rows P r args w' _ from h);exact(put_defers _ _ _).symm.trans (hK _ _ h)
   | _=>exact(show False from h).elim
 | halt x w' =>
   cases x with
   | panic v=>exact(hQ.panic h).elim
   | _=>exact(show False from h).elim
theorem Dj {R:Ending→World→Prop}(h:Calls P f args w R):CallsIn (Fence.wide.inRound l) 0 P f args w R:=CallsIn.inRound l (callsIn_wide.2 h)
theorem FZ {r:String}{R:Value→World→Prop}(h:Rows P r args w R):RowsIn (Fence.wide.inRound l) 0 P r args w R:=fun c cs _=>let⟨v,w',r,s⟩:=h c cs;⟨v,w',r,stepsIn_wide.2 s⟩
theorem F0 (hQ:Calm Q)(hK:∀a w,K a w→a.defers=[])(h:o.wp P a w K Q):o.wpIn (Fence.wide.inRound l) 0 P a w K Q:=by
 refine⟨fun _ _=>trivial,?_⟩;have hnd:∀c,o.op≠.defer c:=fun c hc=>by
   unfold Oper.wp execOp at h;rw[hc] at h;have h':o.upon P a K Q (((resolve a.eval c o.type) >>= fun d=>pure (Next.defer d):Sem Next).run P w):=h;rw[Sem.run_bind] at h';cases hr:(resolve a.eval c o.type).run P w with
   | ok d w' =>
     rw[hr] at h';have h2:K ({ a with defers:=d :: a.defers }.put o.dst undef) w':=h';exact absurd ((put_defers _ _ _).symm.trans (hK _ _ h2)) (by simp)
   | halt x w' =>
     rw[hr] at h';cases x with
     | panic v=>exact hQ.panic (show Q (.panic _) a w' from h')
     | _=>exact(show False from h')
 rw[Oper.semAt_eq _ _ _ hnd];unfold Oper.wp at h;generalize (execOp a.eval o).run P w=r at *;cases r with
 | ok x w' =>
   cases x with
   | enter f args=>exact⟨fun hd=>by simp[Fence.wide] at hd,Dj h⟩
   | row r args=>exact⟨fun hd=>by simp[Fence.wide] at hd,FZ h⟩
   | value v=>exact h
   | skip=>exact h
   | defer d=>exact h
   | _=>exact(show False from h).elim
 | halt x w' =>
   cases x with
   | panic v=>exact h
   | _=>exact(show False from h).elim
theorem lE {ops:Array Oper}(hQ:Calm Q):∀(r:List Nat)(a:Act)(w:World),wpOps P ops Q r a w→a.defers=[]
 | [],a,w,h=>hQ.none _ _ _ h
 | i :: r, a, w, h => by
   unfold wpOps at h;split at h
   · exact lE hQ r a w h
   · split at h
     · rcases h with h | ⟨_, h⟩
       · exact vp hQ (fun a w=>lE hQ r a w) h
       · exact(hQ.out h).elim
     · exact(put_defers _ _ _).symm.trans (lE hQ r _ w h)
theorem Dk (hQ:Calm Q)(hK:∀a w,K a w→a.defers=[])(h:wpOp P ops Q i K a w):a.defers=[]:=by
 unfold wpOp at h;split at h
 ·exact hK _ _ h
 ·split at h
  ·rcases h with h|⟨_,h⟩
   ·exact vp hQ hK h
   ·exact(hQ.out h).elim
  ·exact(put_defers _ _ _).symm.trans (hK _ _ h)
theorem xg (hQ:Calm Q)(hK:∀a w,K a w→a.defers=[])(h:wpOp P ops Q i K a w):wpOpIn (Fence.wide.inRound l) 0 P ops Q i K a w:=by
 unfold wpOp at h;unfold wpOpIn;cases ho:ops[i]? with
 | none=>rw[ho] at h;exact h
 | some o =>
   rw[ho] at h;dsimp only at h ⊢;by_cases hw:Region.wanted o (yielded ops a.tmps)=true
   · rw [if_pos hw] at h ⊢
     rcases h with h|⟨_,h⟩
     · exact F0 hQ hK h
     · exact(hQ.out h).elim
   · rw [if_neg hw] at h ⊢
     exact⟨fun _ _=>trivial,h⟩
theorem Ad {ops:Array Oper}(hQ:Calm Q):∀(r:List Nat)(a:Act)(w:World),wpOps P ops Q r a w→wpOpsIn (Fence.wide.inRound l) 0 P ops Q r a w
 | [],a,w,h=>h
 | i :: r, a, w, h => by
   rw[wpOps_cons] at h;rw[wpOpsIn_cons];exact wpOpIn_mono (fun a w=>Ad hQ r a w) (xg hQ (fun a w=>lE hQ r a w) h)
theorem sR {ops:Array Oper}{md:Region.Mode}(hQ:Calm Q):∀(n:Nat)(L:Array Bool)(a:Act)(w:World),wpAny P md ops Q n L a w→a.defers=[]
 | 0,L,a,w,h=>hQ.none _ _ _ h.2
 | n + 1, L, a, w, h => by
   cases hr:Region.ready md ops L with
   | nil=>exact hQ.none _ _ _ (h.1 hr)
   | cons i r=>exact Dk hQ (fun a w=>sR hQ n _ a w) (h.2 i (by rw[hr];exact aaq))
theorem Ae {ops:Array Oper}{md:Region.Mode}(hQ:Calm Q):∀(n:Nat)(L:Array Bool)(a:Act)(w:World),wpAny P md ops Q n L a w→wpAnyIn (Fence.wide.inRound l) 0 P md ops Q n L a w
 | 0,L,a,w,h=>h
 | n+1,L,a,w,h=>⟨h.1,fun i hi=>wpOpIn_mono (fun a w=>Ae hQ n _ a w) (xg hQ (fun a w=>sR hQ n _ a w) (h.2 i hi))⟩
def wb (P:Program):Md→Code→(Exit→Act→World→Prop)→Act→World→Prop
 | .round l,c,Q,a,w=>c.wpIn (Fence.wide.inRound l) 0 P Q a w
 | .plain,c,Q,a,w=>c.wp P Q a w
 | .marks,c,Q,a,w=>c.wp P Q a w
variable {r:Md} {c x y:Code}{Q':Exit→Act→World→Prop}
theorem iT (h:wb P r c Q a w)(hq:∀e a w,Q e a w→Q' e a w):wb P r c Q' a w:=by
 cases r with
 | plain=>exact wp_mono h hq
 | marks=>exact wp_mono h hq
 | round l=>exact wpIn_mono h hq
theorem Lu (h:Q .normal a w):wb P r .skip Q a w:=by
 cases r with
 | plain=>exact wp_skip h
 | marks=>exact wp_skip h
 | round l=>exact wpIn_skip h
theorem Jg (h:Q .normal a w):wb P r (.label i) Q a w:=by
 cases r with
 | plain=>exact wp_label h
 | marks=>exact wp_label h
 | round l=>exact wpIn_label h
theorem Px (h:Q .ret a w):wb P r .ret Q a w:=by
 cases r with
 | plain=>exact wp_ret h
 | marks=>exact wp_ret h
 | round l=>exact wpIn_ret h
theorem Lv (h:Q (.exit i) a w):wb P r (.exit i) Q a w:=by
 cases r with
 | plain=>exact wp_exit h
 | marks=>exact wp_exit h
 | round l=>exact wpIn_exit h
theorem Py (h:wb P r x (Exit.then (wb P r y Q) Q) a w):wb P r (.seq x y) Q a w:=by
 cases r with
 | plain=>exact wp_seq h
 | marks=>exact wp_seq h
 | round l=>exact wpIn_seq h
theorem Jh (h:wb P r c (Exit.inBlock i Q) a w):wb P r (.block i c) Q a w:=by
 cases r with
 | plain=>exact wp_block h
 | marks=>exact wp_block h
 | round l=>exact wpIn_block h
theorem zy {q:Operand}(hc:a.eval q=.bool true)(h:wb P r x Q a w):wb P r (.cond q x y) Q a w:=by
 cases r with
 | plain=>exact wp_cond_true hc h
 | marks=>exact wp_cond_true hc h
 | round l=>exact wpIn_cond_true hc h
theorem xh {q:Operand}(hc:a.eval q=.bool false)(h:wb P r y Q a w):wb P r (.cond q x y) Q a w:=by
 cases r with
 | plain=>exact wp_cond_false hc h
 | marks=>exact wp_cond_false hc h
 | round l=>exact wpIn_cond_false hc h
theorem F1 (hQ:∀l,r=.round l→Calm Q)(h:wpOps P ops Q (List.range ops.size) a w):wb P r (.region i ops false) Q a w:=by
 cases r with
 | plain=>exact wp_region h
 | marks=>exact wp_region h
 | round l=>exact wpIn_region (Ad (hQ l rfl) _ _ _ h)
theorem l6 (hm:P.follows .mixedOrders=true)(hQ:∀l,r=.round l→Calm Q)(h:wpAny P .any ops Q ops.size (Array.replicate ops.size false) a { w with drawn:=w.drawn+1 }):wb P r (.region i ops true) Q a w:=by
 cases r with
 | plain=>exact wp_region_any hm h
 | marks=>exact wp_region_any hm h
 | round l=>exact wpIn_region_any hm (Ae (hQ l rfl) _ _ _ _ h)
def ou (P:Program)(r:Md)(c:Code)(Q:Exit→Act→World→Prop):Nat→Act→World→Prop
 | 0,_,_=>False
 | m+1,a,w=>wb P r c (Exit.then (ou P r c Q m) Q) a w
theorem BE {m:Nat}:ou P r c Q (m+1) a w=wb P r c (Exit.then (ou P r c Q m) Q) a w:=rfl
theorem wc (m:Nat)(h:ou P r c Q m a w):wb P r (.loop c) Q a w:=by
 have calm:(∀c Q a w,wb P r c Q a w↔c.wp P Q a w)→wb P r (.loop c) Q a w:=fun hr=>by
   refine(hr _ _ _ _).2 (wp_loop_rounds m ?_);have:∀m a w,ou P r c Q m a w→Code.rounds P c Q m a w:=fun m=>by
     induction m with
     | zero=>exact fun a w h=>h
     | succ m ih=>exact fun a w h=>wp_mono ((hr _ _ _ _).1 h) fun e a w h=>by cases e<;>first|exact ih _ _ h|exact h
   exact this m a w h
 cases r with
 | plain=>exact calm fun _ _ _ _=>Iff.rfl
 | marks=>exact calm fun _ _ _ _=>Iff.rfl
 | round l =>
   refine wpIn_loop_rounds m ?_;have:∀m a w,ou P (.round l) c Q m a w→Code.roundsIn (Fence.wide.inRound l) 0 P c Q m a w:=fun m=>by
     induction m with
     | zero=>exact fun a w h=>h
     | succ m ih=>exact fun a w h=>wpIn_mono (show c.wpIn _ _ P _ a w from h) fun e a w h=>by cases e<;>first|exact ih _ _ h|exact h
   exact this m a w h
theorem kU {b:Frame}{k:List Item}{cs:List Frame}:step P (lone (b.atR a (.code (.scope c) :: k)) cs w)=.next (lone (b.atR a (.code c :: .inScope c :: k)) cs w) :=
 step_lone_go (by simp[stepG,stepG.exec,Frame.atR])
theorem zA {b:Frame}{k:List Item}{cs:List Frame}:step P (lone (b.atR a (.inScope c :: k)) cs w)=.next (lone (b.atR a k) cs w) :=
 step_lone_go (by simp[stepG,stepG.exec,Frame.atR])
theorem ry {F:Fence}{n:Nat}(h:c.wpIn F n P (Exit.noGoto Q) a w):(Code.scope c).wpIn F n P Q a w:=by
 intro b k cs hro hb hr;have h0:(lone (b.atR a (.code (.scope c) :: k)) cs w).fenced P F:=fenced_calm hb hr rfl;obtain⟨e,a₁,w₁,hq,harr⟩:=h b (.inScope c :: k) cs hro hb hr;cases e with
 | normal=>exact⟨.normal,a₁,w₁,hq,.head h0 kU (StepsIn.trans harr (.one (fenced_calm hb hr rfl) zA))⟩
 | exit id=>exact⟨.exit id,a₁,w₁,hq,.of_steps (.one h0 kU) (show ArrivesIn _ P _ b k cs (.exit id) a₁ w₁ from⟨fun k' hk=>harr.1 k' (by simp[exitTo,hk]),fun hr hk=>harr.2 hr (by simp[exitTo,hk])⟩)⟩
 | goto l=>exact hq.elim
 | ret=>exact⟨.ret,a₁,w₁,hq,.of_steps (.one h0 kU) (show ArrivesIn _ P _ b k cs .ret a₁ w₁ from harr)⟩
 | panic ch=>exact⟨.panic ch,a₁,w₁,hq,.of_steps (.one h0 kU) (show ArrivesIn _ P _ b k cs (.panic ch) a₁ w₁ from harr)⟩
 | outgrown=>exact⟨.outgrown,a₁,w₁,hq,.of_steps (.one h0 kU) (show ArrivesIn _ P _ b k cs .outgrown a₁ w₁ from harr)⟩
theorem rX (h:wb P r c (Exit.noGoto Q) a w):wb P r (.scope c) Q a w:=by
 cases r with
 | plain=>exact wp_scope_straight h
 | marks=>exact wp_scope_straight h
 | round l=>exact ry h
end
end Go.Am
