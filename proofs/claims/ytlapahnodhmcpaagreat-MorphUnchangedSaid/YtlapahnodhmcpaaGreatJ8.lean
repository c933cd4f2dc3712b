/-
  Part of the proof.
-/
import Derived.Test.YtlapahnodhmcpaaGreatJ0
import Derived.Test.YtlapahnodhmcpaaGreatJ7
set_option linter.unusedVariables false
set_option linter.unusedSectionVars false
set_option linter.unusedSimpArgs false
set_option maxRecDepth 100000
set_option maxHeartbeats 40000000
namespace Go.Am
open Go.RowKit
variable{E:Env}{o':List (Nat×Ob)}{w:World}{f n t:Nat}{args:List SV}{v:Value}
section
variable {P:Program} {w0:Fr}{M0:Nat→Prop}
theorem gr.mN {o:List (Nat×Ob)}(hw:gr P w0 M0 E o w)(ho':∀id ob,o'.lookup id=some ob→o.lookup id=some ob):gr P w0 M0 E o' w:=by
 have hown:∀b,owned E o' b→owned E o b:=fun b ⟨id,ob,h1,h2⟩=>⟨id,ob,ho' id ob h1,h2⟩
 refine⟨fun id ob hid=>?_,fun id ob id' ob' b h1 h2=>hw.disj id ob id' ob' b (ho' _ _ h1) (ho' _ _ h2),hw.below,hw.pins⟩;have:=hw.objs id ob (ho' id ob hid);cases ob with
 | arr e xs =>
   obtain⟨vals,h1,h2,h3⟩:=this;exact⟨vals,h1,h2,fun j d hd=>⟨(h3 j d hd).1,(h3 j d hd).2.cd (dO hown .pl)⟩⟩
 | box e cs =>
   obtain⟨vals,h1,h2,h3,h4⟩:=this;exact⟨vals,h1,h2,h3,fun j sv hj=>⟨(h4 j sv hj).1,(h4 j sv hj).2.1,(h4 j sv hj).2.2.mN ho'⟩⟩
 | mp ks vs =>
   obtain⟨es,clock,h1,h2,h3,h4,h5⟩:=this;exact⟨es,clock,h1,h2,h3,h4,fun j d hd=>(h5 j d hd).cd (dO hown .pl)⟩
 | nar e cs ln =>
   obtain⟨n,vals,h1,h2,h3,h4,h5⟩:=this;exact⟨n,vals,h1,h2,h3,h4.cd hown,h5⟩
 | nmp ks cs ln =>
   obtain⟨es,clock,h1,h2,h3,h4,h5,h6,h7⟩:=this;exact⟨es,clock,h1,h2,h3,h4,h5,h6.cd hown,h7⟩
theorem dm {fn:Func}{c:Code}(hf:P.funcs[f]?=some fn)(hb:fn.body=some c)(hnt:fn.ntmps=n){o:List (Nat×Ob)}{Q:Exit→St→Prop}{R:Value→Env→St→World→Prop}(hn:args.length≤n)(vs:List Value)(hv:vs.length=args.length)
  (hw:gr P w0 M0 E o w)(hr:∀(j:Nat) d,args[j]?=some d→bm P M0 w E o (vs.getD j undef) d)
  (h:ao P w0.plain M0 c (St.fG n args o) Q)(hQ:∀e s' a' w' E',Q e s'→ba P w0 M0 E' s' a' w'→(e=.normal∨e=.ret)∧∃v,(results fn a'.tmps).run P w'=.ok v w'∧R v E' s' w') :
  Calls P f vs.toArray w fun e w'=>∃v E' s',e=.returned v∧R v E' s' w':=by
 have hE:ba P w0.plain M0 E (St.fG n args o) { tmps:=vs.toArray++Array.replicate (fn.ntmps-vs.toArray.size) undef,defers:=[] } w:=by
  refine⟨by simp[St.fG,hnt];omega,rfl,fun t d ht=>?_,hw.plain⟩;obtain⟨_,he⟩:=kG args 0 t d ht;rw[ab7] at he;have hlt:t<args.length:=(aaz.1 he).1;refine⟨by simp[St.fG];omega,?_⟩;have:=hr t d he;have hget:(vs.toArray++Array.replicate (fn.ntmps-vs.toArray.size) undef).getD t undef=vs.getD t undef:=by
   rw[aaL,abS (by simp;omega),aag];simp
  rw[hget];exact this
 refine calls_of_wp hf hb (wp_mono (show Code.wp P c _ _ _ from h _ _ ⟨_,hE⟩) fun e a' w' ⟨s',hq,E',hs⟩=>?_);have hdf:a'.defers=[]:=hs.defers;have hs:=hs.wz;obtain⟨he,v,hv1,hv2⟩:=hQ e s' a' w' E' hq hs;have fin:a'.defers=[]∧∃v,(results fn a'.tmps).run P w'=.ok v w'∧∃v_1 E'_1 s'_1,Ending.returned v=Ending.returned v_1∧R v_1 E'_1 s'_1 w':=⟨hdf,v,hv1,_,E',s',rfl,hv2⟩;rcases he with rfl|rfl
 ·exact fin
 ·exact fin
def UD (t:Nat)(r:SV)(o':List (Nat×Ob)):Exit→St→Prop
 | .normal,s|.ret,s=>s.s.lookup t=some r∧∀id ob,o'.lookup id=some ob→s.o.lookup id=some ob
 | _,_=>False
def LW (o':List (Nat×Ob)):Exit→St→Prop
 | .normal,s|.ret,s=>∀id ob,o'.lookup id=some ob→s.o.lookup id=some ob
 | _,_=>False
def RB (P : Program) (f : FuncId) (n : Nat) (c : Code) : Prop := ∃ fn, P.funcs[f]? = some fn ∧ fn.body = some c ∧ fn.ntmps = n ∧ fn.results = #[] ∧ (fn.name == "runtime.NumGoroutine") = false
theorem RB.bu {c:Code}(h:RB P f n c):cg P f:=by obtain⟨fn,h1,h2,_,_,h5⟩:=h;exact⟨fn,h1,h5,by rw[h2];rfl⟩
theorem gK {c:Code}(hf:HO P f n t c){o:List (Nat×Ob)}{r:SV}(hn:args.length≤n)
  (h:∀(w0:Fr)(M0:Nat→Prop),(∀b,M0 b→b<w0.w.heap.size)→ao P w0 M0 c (St.fG n args o) (UD t r o')):lz P f args o r o':=by
 refine⟨hf.bu,fun w0 M0 E w vs aa hw hv hr=>?_⟩;obtain⟨fn,h1,h2,h3,h4,h5⟩:=hf;refine(dm h1 h2 h3 (R:=fun v E' s' w'=>gr P w0 M0 E' o' w'∧bm P M0 w' E' o' v r) hn vs hv hw hr (h w0.plain M0 aa) (fun e s' a' w' E' hq hs=>?_)).mono fun e w' ⟨v,E',s',he,hR⟩=>⟨v,E',he,hR⟩
 have fin:s'.s.lookup t=some r∧(∀id ob,o'.lookup id=some ob→s'.o.lookup id=some ob)→∃v,(results fn a'.tmps).run P w'=.ok v w'∧gr P w0 M0 E' o' w'∧bm P M0 w' E' o' v r:=fun⟨q1,q2⟩ =>
  ⟨a'.tmps.getD t undef,by simp[results,h4],hs.wok.mN q2,(hs.slots t r q1).2.mN q2⟩
 cases e with
 | normal=>exact⟨.inl rfl,fin hq⟩
 | ret=>exact⟨.inr rfl,fin hq⟩
 | exit _=>exact hq.elim
 | goto _=>exact hq.elim
 | panic _=>exact hq.elim
 | outgrown=>exact hq.elim
theorem pP {c:Code}(hf:RB P f n c){o:List (Nat×Ob)}(hn:args.length≤n)
  (h:∀(w0:Fr)(M0:Nat→Prop),(∀b,M0 b→b<w0.w.heap.size)→ao P w0 M0 c (St.fG n args o) (LW o')):lz P f args o (.v .pl (.tup [])) o':=by
 refine⟨hf.bu,fun w0 M0 E w vs aa hw hv hr=>?_⟩;obtain⟨fn,h1,h2,h3,h4,h5⟩:=hf;refine(dm h1 h2 h3 (R:=fun v E' s' w'=>gr P w0 M0 E' o' w'∧bm P M0 w' E' o' v (.v .pl (.tup []))) hn vs hv hw hr (h w0.plain M0 aa) (fun e s' a' w' E' hq hs=>?_)).mono fun e w' ⟨v,E',s',he,hR⟩=>⟨v,E',he,hR⟩
 have fin:(∀id ob,o'.lookup id=some ob→s'.o.lookup id=some ob)→∃v,(results fn a'.tmps).run P w'=.ok v w'∧gr P w0 M0 E' o' w'∧bm P M0 w' E' o' v (.v .pl (.tup [])):=fun q2 =>
  ⟨.tuple #[],by simp[results,h4],hs.wok.mN q2,.tup [] [] rfl (fun j d hd=>by simp at hd)⟩
 cases e with
 | normal=>exact⟨.inl rfl,fin hq⟩
 | ret=>exact⟨.inr rfl,fin hq⟩
 | exit _=>exact hq.elim
 | goto _=>exact hq.elim
 | panic _=>exact hq.elim
 | outgrown=>exact hq.elim
theorem ew {r r1:SV}{o1:List (Nat×Ob)}{s:St}(h:s.s.lookup t=some r1)(ho:wg s o1)(e:r1=r∧o1=o'):UD t r o' .ret s:=by obtain⟨rfl,rfl⟩:=e;exact⟨h,ho.out⟩
theorem ec {o1:List (Nat×Ob)}{s:St}(ho:wg s o1)(e:o1=o'):LW o' .normal s:=by subst e;exact ho.out
def qI.sv:qI→SV
 | .bx id=>.pbox id 0
 | .pl d=>.v .pl d
 | .ow id=>.own id
 | .om id=>.omap id
def nE:SV→Option (FuncId×List SV)
 | .v c (.clo f caps)=>some (f,caps.map (.v c))
 | .fn f caps=>some (f,caps.map qI.sv)
 | _=>none
theorem vy {o:List (Nat×Ob)}{d:SV}{f:FuncId}{cs:List SV}(h:bm P M0 w E o v d)(hc:nE d=some (f,cs)) :
   ∃vs:List Value,v=.func (.func f) #[] vs.toArray∧vs.length=cs.length∧∀(j:Nat) e,cs[j]?=some e→bm P M0 w E o (vs.getD j undef) e:=by
 unfold nE at hc;split at hc
 · simp only [aaj, abk] at hc
   obtain⟨rfl,rfl⟩:=hc;cases h with
   | clo _ vs _ hn hr =>
     refine⟨vs,rfl,by simpa using hn,fun j e he=>?_⟩;rw[aap,aao] at he;obtain⟨a,ha,rfl⟩:=he;exact hr j a ha
 · simp only [aaj, abk] at hc
   obtain⟨rfl,rfl⟩:=hc;obtain⟨vs,h1,h2,h3⟩:=h;refine⟨vs,h1,by simpa using h2,fun j e he=>?_⟩;rw[aap,aao] at he;obtain⟨c,hc,rfl⟩:=he;have:=h3 j c hc;cases c with
   | bx id=>exact this
   | pl d=>exact this
   | ow id=>exact this
   | om id=>exact this
 · cases hc
def Po (s:St):List Operand→Option (List SV)
 | []=>some []
 | x :: r => match s.ev x, Po s r with
   | some d,some ds=>some (d :: ds)
   | _,_=>none
theorem Gc {E:Env}{s:St}{a:Act}{w:World}(hs:ba P w0 M0 E s a w):∀{xs:List Operand}{ds:List SV},Po s xs=some ds→xs.length=ds.length∧∀(j:Nat) d,ds[j]?=some d→bm P M0 w E s.o ((xs.map a.eval).getD j undef) d
 | [],ds,h=>by simp only[Po,aaj] at h;subst h;exact⟨rfl,fun j d hd=>by simp at hd⟩
 | x :: r, ds, h => by
   unfold Po at h;split at h
   · rename_i d0 ds0 h1 h2
     simp only[aaj] at h;subst h;obtain⟨g1,g2⟩:=Gc hs h2;refine⟨by simp[g1],fun j d hd=>?_⟩;cases j with
     | zero=>simp only[aaN,aaj] at hd;subst hd;exact hs.ev h1
     | succ j=>exact g2 j d (by simpa using hd)
   · cases h
def LX (s:St)(ρ:List (Nat×Nat))(ids:List Nat)(sv d:SV):Prop :=
 sv=d.kl ρ∨(∃a,sv=.v .pl a∧d=.v .mx a)∨(∃i e xs,sv=.own i∧s.o.lookup i=some (.arr e xs)∧ids.contains i=false∧d=.v .mx (.sl xs))
def lj (s:St)(ρ:List (Nat×Nat))(ids:List Nat):List SV→List SV→Prop
 | [],[]=>True
 | sv :: r,d :: ds=>LX s ρ ids sv d∧lj s ρ ids r ds
 | _,_=>False
theorem lj.get {s:St}{ρ:List (Nat×Nat)}{ids:List Nat}:∀{l m:List SV},lj s ρ ids l m→l.length=m.length∧∀(j:Nat) d,m[j]?=some d→∃sv,l[j]?=some sv∧LX s ρ ids sv d
 | [],[],_=>⟨rfl,fun j d hd=>by simp at hd⟩
 | sv :: r, d :: ds, h => by
   obtain⟨g1,g2⟩:=lj.get h.2;refine⟨by simp[g1],fun j e he=>?_⟩;cases j with
   | zero=>simp only[aaN,aaj] at he;subst he;exact⟨sv,rfl,h.1⟩
   | succ j=>exact g2 j e (by simpa using he)
theorem xo {s:St}{ρ:List (Nat×Nat)}{oc:List (Nat×Ob)}(hw:gr P w0 M0 E s.o w)(hob:∀a ob,oc.lookup a=some ob→s.o.lookup (rn ρ a)=some (ob.kl ρ)){sv d:SV}(h:bm P M0 w E s.o v sv)(ha:LX s ρ (cR ρ oc) sv d) :
  bm P (Lg M0 (owned E s.o) (owned (fI E ρ) oc)) w (fI E ρ) oc v d:=by
 rcases ha with rfl|⟨a,rfl,rfl⟩|⟨i,e,xs,rfl,hl,hi,rfl⟩
 ·exact LU hob h
 ·exact bJ.cd h fun b hb=>.inr (eS hob hb)
 ·rw[h e xs hl];refine(hw.objs i _ hl).rep (fun b hb=>.inr (eS hob hb)) (fun g hg=>?_);rintro⟨a,ob0,h1,h2⟩;have:=hw.disj i _ (rn ρ a) _ g hl (hob a ob0 h1) hg (pO.1 h2);rw[abK,decide_eq_false_iff_not] at hi;exact hi (aaG.2 ⟨_,dA h1,this.symm⟩)
def oB (s:St)(ρ:List (Nat×Nat)):List (Nat×Ob)→Prop
 | []=>True
 | (a,ob) :: r=>s.o.lookup (rn ρ a)=some (ob.kl ρ)∧oB s ρ r
theorem oB.out {s:St}{ρ:List (Nat×Nat)}:∀{oc:List (Nat×Ob)},oB s ρ oc→∀a ob,oc.lookup a=some ob→s.o.lookup (rn ρ a)=some (ob.kl ρ)
 | [],_,a,ob,h=>by simp at h
 | (b, y) :: r, h, a, ob, hl => by
   rw[aj] at hl;split at hl
   · rename_i he
     subst he;simp only[aaj] at hl;subst hl;exact h.1
   · exact oB.out h.2 a ob hl
theorem aP {o:Oper}{s:St}{cx:Operand}{xs:Array Operand}{ats:Array TypeId}{f:FuncId}{dc:SV}{caps svs:List SV}{r:SV}{oc oc':List (Nat×Ob)}(ρ:List (Nat×Nat))(ho:o.op=.call { callee:=.value cx,args:=xs,argTypes:=ats })(hd:o.dst=some t)(hn:Nat.blt t s.n=true)(hnd:Nodup s.s=true)
  (hc:s.ev cx=some dc)(hcc:nE dc=some (f,caps))(ha:Po s xs.toList=some svs)(h:lz P f args oc r oc')(hargs:lj s ρ (cR ρ oc) (svs++caps) args)(hob:oB s ρ oc)(hinj:jo (cR ρ oc)=true)(hsame:oc.map (fun p=>(p.1,p.2.kind))=oc'.map (fun p=>(p.1,p.2.kind)))
  (hbig:oc.all (fun p=>Nat.beq p.2.kind 0||Nat.ble 1000000 p.1)=true)(hpl:oc'.all (fun p=>p.2.plain (oc'.map (·.1)))=true)(hr:r.plain (oc'.map (·.1))=true)(aa:∀b,M0 b→b<w0.w.heap.size) :
  Step P w0 M0 o s ((s.after ρ oc').put t (r.kl ρ)):=by
 rintro a w Q ⟨E,hs⟩;obtain⟨vc,hvc,hcn,hcr⟩:=vy (hs.ev hc) hcc;obtain⟨hxn,hxr⟩:=Gc hs ha;have hob':=hob.out;obtain⟨han,har⟩:=hargs.get;unfold Oper.wp;rw[fE ho hvc h.1];simp only[Oper.upon];have hwc:=wC hs.wok hob' hinj;have hall:=h.2 (SS w0.dr w (fI E ρ) oc) (Lg M0 (owned E s.o) (owned (fI E ρ) oc)) (fI E ρ) w (xs.toList.map a.eval++vc) (fun b hb=>?_) hwc (by rw[←han];simp[hxn,hcn]) (fun j d hd=>?_)
 ·have e1:(xs.toList.map a.eval++vc).toArray=xs.map a.eval++vc.toArray:=by apply ab1 ;simp
  rw[e1] at hall;refine hall.mono fun e' w' ⟨v,E',he,hw',hv⟩=>?_
  subst he;simp only[hd];obtain⟨E'',h1,h2⟩:=hs.after hnd hob' hinj hsame hbig hpl hw';exact⟨E'',h1.put (by simpa[St.after] using hn) (h2 v r hr hv)⟩
 ·rcases hb with hb|hb
  ·have:=aa b hb;have:=hs.wok.below.size;show b<w.heap.size;omega
  ·exact(hs.wok.bF hb.1).2
 ·obtain⟨sv,hsv,hok⟩:=har j d hd;refine xo hs.wok hob' ?_ hok;rw[aag];rcases aaK j svs.length with hlt|hge
  ·rw[aaH hlt] at hsv;have:=hxr j sv hsv;rw[aaH (by simp[hxn];omega)];rwa [aag] at this
  ·rw[aaE hge] at hsv;have:=hcr _ sv hsv;rw[aaE (by simp[hxn];omega)];simp only[aai,hxn];rwa [aag] at this
def Ap (s:Operand→Option SV):List Operand→Option (List qI)
 | []=>some []
 | x :: r => match s x, Ap s r with
   | some (.pbox id 0),some cs=>some (.bx id :: cs)
   | some (.v .pl d),some cs=>some (.pl d :: cs)
   | _,_=>none
end
variable{ds:List AV}{r:RV}
section
variable {P:Program} {w0:Fr}{M0:Nat→Prop}
def um (P : Program) (f : FuncId) (n t : Nat) (T : TypeId) (k : Nat) (c : Code) : Prop := ∃ fn, P.funcs[f]? = some fn ∧ fn.body = some c ∧ fn.ntmps = n ∧ fn.results = #[.cell t T] ∧ (fn.name == "runtime.NumGoroutine") = false ∧ bo P T = some true ∧ bY P T = some k
theorem um.bu {k:Nat}{T:TypeId}{c:Code}(h:um P f n t T k c):cg P f:=by obtain⟨fn,h1,h2,_,_,h5,_⟩:=h;exact⟨fn,h1,h5,by rw[h2];rfl⟩
def sb (ob:List (Nat×Ob))(k:Nat):SV→Option SV
 | .pbox id off => match ob.lookup id with
   | some (.box _ cs)=>if Nat.ble (off+k) cs.length then(jA ob ((cs.drop off).take k)).map fun p=>.v p.1 (.agg p.2) else none
   | _=>none
 | _=>none
def PH (t k:Nat)(r:RV):Exit→St→Prop
 | .normal,s|.ret,s=>((s.s.lookup t).bind (sb s.o k)).bind (bR s.o)=some r
 | _,_=>False
theorem iD  {ob:List (Nat×Ob)}  {T:TypeId} {k:Nat}  {sv sv':SV} (hT:bo P T=some true) (hk:bY P T=some k) (hw:gr P w0 M0 E ob w)
   (h:bm P M0 w E ob v sv)(hb:sb ob k sv=some sv'):∃v',((asAddr v).run P w).andThen (fun x w=>(loadVar T x).run P w)=.ok v' w∧bm P M0 w E ob v' sv':=by
 unfold sb at hb;split at hb
 · rename_i id off
   split at hb
   · rename_i e cs hl
     split at hb
     · rename_i hle
       rw[aao] at hb;obtain⟨⟨c,al⟩,hv,rfl⟩:=hb;have hr:=h e cs hl;have hle':=aah hle;obtain⟨vals,h1,h2,h3,h4⟩:=hw.objs id _ hl;have hvl:((vals.drop off).take k).length=((cs.drop off).take k).length:=by simp;omega
       obtain⟨g1,g2⟩:=lF hw ((cs.drop off).take k) ((vals.drop off).take k) c al hvl (fun j d hd=>by
         rw[aa1] at hd;split at hd
         · rename_i hj
           rw[abE] at hd;have:=(h4 _ d hd).2.2;rw[aag] at this ⊢;rwa [aa1,if_pos hj,abE]
         · cases hd) hv
       have hcell:=run_loadCells (P:=P) w ⟨E.blk id,off,none⟩ k (fun j=>vals.getD (off+j) undef) (fun j hj=>by
         rw[Addr.add_lit,cell_of_row w _ (off+j) _ e (0,0) h1];have:off+j<vals.length:=acK;simp[aag,aal this])
       have hkl:((vals.drop off).take k).length=k:=by simp;omega
       have e1:(List.range k).map (fun j=>vals.getD (off+j) undef)=(vals.drop off).take k:=by
         apply abe;intro j;simp only[aap,aa1,abE];rcases aaK j k with hj|hj
         · rw [if_pos hj]
           have:off+j<vals.length:=acK;simp[hj,aag,aal this]
         · rw[if_neg acK];simp;omega
       refine⟨.agg ((vals.drop off).take k).toArray,?_,.agg _ _ (by rw[hvl,g1]) (fun j d hd=>(g2 j d hd).1) (fun j d hd=>(g2 j d hd).2)⟩;subst hr;simp only[asAddr,loadVar,Sem.run_bind,dj hT,dt hk,Result.andThen_ok,Sem.run_pure,if_true,hcell,e1]
     · cases hb
   · cases hb
 · cases hb
theorem pQ {k:Nat}{T:TypeId}{c:Code}(hf:um P f n t T k c){cl:fW}(hn:ds.length≤n)(vs:List Value)(hv:vs.length=ds.length)
  (hr:∀(j:Nat) d,ds[j]?=some d→bJ w (cB M0 (fun _=>False) cl) (vs.getD j undef) d)
  (h:ao P (Fr.all w) M0 c (St.enter n cl ds) (PH t k r)) :
  Calls P f vs.toArray w fun e w'=>∃v,e=.returned v∧Below w.heap.size w w'∧iJ P w' M0 (fun b=>b<w.heap.size) v r:=by
 rw[eU] at h;obtain⟨fn,h1,h2,h3,h4,h5,h6,h7⟩:=hf;refine(dm h1 h2 h3 (R:=fun v E' s' w'=>Below w.heap.size w w'∧iJ P w' M0 (fun b=>b<w.heap.size) v r) (by simpa using hn) vs (by simpa using hv) jP (fun j d hd=>?_) h (fun e s' a' w' E' hq hs=>?_)).mono fun e w' ⟨v,E',s',he,hR⟩=>⟨v,he,hR⟩
 ·rw[aap,aao] at hd;obtain⟨a,ha,rfl⟩:=hd;have:=hr j a ha;simp only[bm,ei];exact this
 ·have fin:((s'.s.lookup t).bind (sb s'.o k)).bind (bR s'.o)=some r→∃v,(results fn a'.tmps).run P w'=.ok v w'∧Below w.heap.size w w'∧iJ P w' M0 (fun b=>b<w.heap.size) v r:=fun hb=>by
   rw[abc] at hb;obtain⟨sv',hb,hret⟩:=hb;rw[abc] at hb;obtain⟨sv,hl,hb⟩:=hb;obtain⟨v,g1,g2⟩:=iD h6 h7 hs.wok (hs.slots t sv hl).2 hb;refine⟨v,?_,hs.wok.below.below,dY hs.wok g2 hret⟩;simp[results,h4,Sem.run_bind];simpa using g1
  cases e with
  | normal=>exact⟨.inl rfl,fin hq⟩
  | ret=>exact⟨.inr rfl,fin hq⟩
  | exit _=>exact hq.elim
  | goto _=>exact hq.elim
  | panic _=>exact hq.elim
  | outgrown=>exact hq.elim
theorem ey {k:Nat}{T:TypeId}{c:Code}(hf:um P f n t T k c)(hn:ds.length≤n)
  (h:∀(w0:Fr)(M0:Nat→Prop),(∀b,M0 b→b<w0.w.heap.size)→ao P w0 M0 c (St.enter n .mx ds) (PH t k r)):ak P f ds r :=
 ⟨hf.bu,fun w vs hv hr=>pQ (cl:=.mx) hf hn vs hv (fun j d hd=>hr j d hd) (h (Fr.all w) (fun b=>b<w.heap.size) (fun b hb=>hb))⟩
theorem bk {k:Nat}{T:TypeId}{c:Code}(hf:um P f n t T k c)(hn:ds.length≤n)
  (h:∀(w0:Fr)(M0:Nat→Prop),(∀b,M0 b→b<w0.w.heap.size)→ao P w0 M0 c (St.enter n .pl ds) (PH t k r)):aU P f ds r :=
 ⟨hf.bu,fun w M vs hM hv hr=>pQ (cl:=.pl) hf hn vs hv (fun j d hd=>(hr j d hd).cd (fun b hb=>Or.elim hb id (fun h=>False.elim h))) (h (Fr.all w) M hM)⟩
theorem aA {k:Nat}{s:St}{r':RV}(h:((s.s.lookup t).bind (sb s.o k)).bind (bR s.o)=some r')(hr:r'=r):PH t k r .ret s:=by subst hr;exact h
end
variable{q:IntKind}{i:Int}
section
variable {P:Program} {w0:Fr}{M0:Nat→Prop}{s:St}
variable {o:Oper} {ρ:Operand→Option SV}{ob:List (Nat×Ob)}{x y z:Operand}{T e:TypeId}{k:Nat}{xs:List AV}{id:Nat}{c:fW}
theorem s8 {a:Option Addr}{cap:Nat}(hT:P.underlying T=some (.slice e))(hk:bY P e=some k)(h:0≤i∧i≤n)(hc:n≤cap) :
  (Instr.slice T (.slice a n cap) (some (.int q i)) none none).run P w=.ok (sliced a i.toNat n cap k) w:=by
 have h1:0≤i∧i≤(cap:Int):=acK;have h2:i≤(n:Int):=h.2;simp[Instr.slice,run_underlying hT,Instr.sliceBounds,run_sliceBound,h1,h2,hc,h.1,dt hk,sliced]
theorem BP (ho:o.op=.slice T x (some y) none none)(hT:P.underlying T=some (.slice e))(hk:bY P e=some k)(hx:viewAt ρ ob x=some (c,.sl xs))(hy:aZ ρ y=some (.int q i))(h:0≤i∧i≤xs.length)(hxk:∀v∈xs,(AV.cells v).length=k) :
  Pure P w0 M0 o ρ ob (.v c (.sl (xs.drop i.toNat))) :=
 aD fun E w ev hw hh=>by
  have hr:=cz hw hh hx;have hy':=bK hh hy;generalize hq:ev x=u at hr;have hu:∃a n cap,u=.slice a n cap∧xs.length=n∧n≤cap:=by
   cases hr with
   | sl a n cap _ k cv hn hc _ _ _ _=>exact⟨a,n,cap,rfl,hn,hc⟩
  obtain⟨a,n,cap,rfl,hn,hc⟩:=hu;have hel:P.elem T=e:=by simp[Program.elem,hT]
  have hrun:=s8 (P:=P) (w:=w) (T:=T) (a:=a) (n:=n) (cap:=cap) (q:=q) (i:=i) hT hk acK hc;have:=hr.part hk hxk (i:=i.toNat) (j:=n) acK acK;rw[show(xs.drop i.toNat).take (n-i.toNat)=xs.drop i.toNat from aaB (by simp;omega)] at this;refine⟨_,w,?_,.refl _ _,this⟩;simp only[execOp,ho,hq,hy',aa3,Option.map_none,Sem.run_bind,run_sliceAt_slice (P:=P) (w:=w) T _ _ _ _ (by rw[hel];exact hT),hrun,Result.andThen_ok,Sem.run_pure]
theorem nr {α:Type}{f:α→AV}{l:List α}(ho:o.op=.slice T x (some y) none none)(hT:P.underlying T=some (.slice e))(hk:bY P e=some k)(hx:viewAt ρ ob x=some (c,.sl (l.map f)))(hy:aZ ρ y=some (.int q i))(h:0≤i∧i≤l.length)(hxk:∀z,(AV.cells (f z)).length=k) :
  Pure P w0 M0 o ρ ob (.v c (.sl ((l.drop i.toNat).map f))):=by
 have:=BP (P:=P) (w0:=w0) (M0:=M0) ho hT hk hx hy (by simpa using h) (mQ hxk);rwa [←List.map_drop] at this
theorem dU (ho:o.op=.slice T x (some y) none none)(hT:P.underlying T=some (.slice e))(hk:bY P e=some k)(hx:ρ x=some (.own id))(hl:ob.lookup id=some (.arr e xs))(hy:aZ ρ y=some (.int q i))(h:0≤i∧i≤xs.length) :
  Pure P w0 M0 o ρ ob (.vsl id i.toNat (xs.length-i.toNat)) :=
 aD fun E w ev hw hh=>by
  have hr:=hh x _ hx e xs hl;have hy':=bK hh hy;obtain⟨vals,⟨hown,hownF⟩,h2,h3⟩:=hw.objs id _ hl;have hu:∃a cap,E.cur id=.slice a xs.length cap∧xs.length≤cap:=by
   rcases hown.2 with⟨hv,hn⟩|⟨g,cap,cur,hv,hgb,hh,hnc,_⟩
   ·exact⟨none,0,by rw[hv,hn],acK⟩
   ·exact⟨_,cap,hv,hnc⟩
  obtain⟨a,cap,hv,hc⟩:=hu;have hel:P.elem T=e:=by simp[Program.elem,hT]
  have hrun:=s8 (P:=P) (w:=w) (T:=T) (a:=a) (n:=xs.length) (cap:=cap) (q:=q) (i:=i) hT hk h hc;refine⟨sliced a i.toNat xs.length cap k,w,?_,.refl _ _,fun e' xs' hl'=>?_⟩
  ·simp only[execOp,ho,hr,hv,hy',aa3,Option.map_none,Sem.run_bind,run_sliceAt_slice (P:=P) (w:=w) T _ _ _ _ (by rw[hel];exact hT),hrun,Result.andThen_ok,Sem.run_pure]
  ·rw[hl] at hl';simp only[aaj,Ob.arr.injEq] at hl';obtain⟨rfl,rfl⟩:=hl';exact⟨acK,a,_,cap,hv,by rw[cL hk];congr 1;omega⟩
theorem BQ {i:Nat}(ho:o.op=.call { callee:=.builtin .len,args:=#[x],argTypes:=#[T] })(hT:P.underlying T=some (.slice e))(hx:ρ x=some (.vsl id i n))(hl:ob.lookup id=some (.arr e xs)) :
  Pure P w0 M0 o ρ ob (.v .pl (int n)) :=
 aD fun E w ev hw hh=>by
  obtain⟨hle,a,len,cap,hc,hv⟩:=hh x _ hx e xs hl;refine⟨.int .i64 n,w,?_,.refl _ _,.sc _ J⟩;have hel:P.elem T=e:=by simp[Program.elem,hT]
  have hs:ev x=.slice (if cap=i then a else a.map (·.add (i*P.cellsOf e))) n (cap-i):=by rw[hv];unfold sliced;rw[Nat.add_sub_cancel_left]
  simp[execOp,ho,resolve,hs,invoke,builtin,Builtin.len_,run_underlying hT,goInt]
theorem xp {i:Nat}{j:Int}(ho:o.op=.indexAddr T x y)(hT:P.underlying T=some (.slice e))(hk:bY P e=some k)(hx:ρ x=some (.vsl id i n))(hl:ob.lookup id=some (.arr e xs))(hy:aZ ρ y=some (.int q j))(h:0≤j∧j<n) :
   Pure P w0 M0 o ρ ob (.pel id (i+j.toNat) 0) :=
 aD fun E w ev hw hh=>by
   obtain⟨hle,a,len,cap',hc,hvx⟩:=hh x _ hx e xs hl;have hi:=bK hh hy;obtain⟨vals,⟨hown,hownF⟩,h2,h3⟩:=hw.objs id _ hl;rcases hown.2 with⟨hv,hn⟩|⟨g,cap,cur,hv,hgb,hhh,hnc,_⟩
   · omega
   · rw [hv] at hc
     simp only[Value.slice.injEq] at hc;obtain⟨rfl,rfl,rfl⟩:=hc;have hs:ev x=.slice (some ⟨g,i*P.cellsOf e,none⟩) n (cap-i):=by
       rw[hvx];unfold sliced;rw[Nat.add_sub_cancel_left,if_neg acK];simp[Addr.add_lit]
     have hel:P.elem T=e:=by simp[Program.elem,hT]
     refine⟨.pointer (some ⟨g,(i+j.toNat)*P.cellsOf e+0,none⟩),w,?_,.refl _ _,fun e' xs' h'=>?_⟩
     · have hin : 0 ≤ j ∧ j < (n : Int) := h
       simp[execOp,ho,hs,hi,run_indexAt_slice,hel,hT,hin,dt hk,cL hk,Addr.add_lit,acg]
     · rw [hl] at h'
       simp only[aaj,Ob.arr.injEq] at h';obtain⟨rfl,rfl⟩:=h';exact⟨acK,g,by rw[hv];rfl,rfl⟩
theorem PI {a:Act}(hs:ba P w0 M0 E s a w)(hnd:Nodup s.s=true)(aa:∀b,M0 b→b<w0.w.heap.size)(hl:s.o.lookup id=some (.arr e xs)){g:Nat}(hg:(E.cur id).ownBlock=some g){p:Nat}{us:List Value}{ms:List AV}(hlen:us.length=ms.length)
   (hp:p+us.length≤xs.length*P.cellsOf e)(hms:∀(j:Nat) d,ms[j]?=some d→AV.leaf d=true∧bJ w (cB M0 (owned E s.o) .pl) (us.getD j undef) d){xs':List AV}(hxl:xs'.length=xs.length)(hxk:∀x∈xs',(AV.cells x).length=P.cellsOf e)
   (hflat:flat xs'=rH (flat xs) p ms):∃cur,w.heap[g]?=some (.cells cur e (0,0))∧p+us.length≤cur.size∧ba P w0 M0 E (s.cC false id (.arr e xs')) a (w.setRow g (rH cur.toList p us).toArray):=by
 obtain⟨vals,⟨hown,hownF⟩,h2,h3⟩:=hs.wok.objs id _ hl;obtain⟨hvl,hform⟩:=hown;rcases hform with⟨hv,hn0⟩|⟨g',cap,cur,hv,hgb,hh,hnc,hcm,hcs,htake⟩
 · rw[hv] at hg;cases hg
 · have hgg : g' = g := by rw [hv] at hg; simpa [Value.ownBlock] using hg
   subst hgg;have hvals:vals.length≤cur.size:=by rw[hvl,hcs];exact abl _ hnc
   have hspl:p+us.length≤vals.length:=acK;refine⟨cur,hh,acK,hs.cC false (fun _=>⟨rfl,.inl ⟨e,xs,_,hl,rfl,by simp[hxl]⟩⟩) hnd aa (fun i hi=>⟨rfl,rfl⟩) (.inr J) (some g') jS (fun _=>aak _) (fun g hg'=>⟨_,hl,by simp only[aaj] at hg';subst hg';exact hg⟩) (fun b hb=>.inl ⟨_,hl,hb⟩) (fun rep sv=>?_)⟩;refine⟨rH vals p us,⟨⟨by rw[dz hspl,hvl,hxl],.inr ⟨g',cap,_,by rw[hv,hxl],hgb,setRow_heap w _ _ _ e _ hh,by rw[hxl];exact hnc,hcm,?_,?_⟩⟩,hownF⟩,hxk,fun j d hj=>?_⟩
   · rw[acI,dz (by simp;omega)];simpa using hcs
   · rw [hxl, ← hvl]
     have ht:cur.toList.take vals.length=vals:=by rw[hvl];exact htake
     apply abe;intro j;rw[aa1,fA (by simp;omega),fA hspl];by_cases hj:j<vals.length
     · rw [if_pos hj]
       split
       · rfl
       · have : (cur.toList.take vals.length)[j]? = cur.toList[j]? := by rw [aa1, if_pos hj]
         rw[←this,ht]
     · rw[if_neg hj,if_neg acK,aaR acK]
   · rw [hflat, fA (by rw [bO xs h2, ← hvl]; omega)] at hj
     rw[aag,fA hspl,hlen];split at hj
     · rename_i hin
       rw[if_pos hin];have:=hms _ d hj;rw[aag] at this;exact⟨this.1,rep .pl _ _ this.2 (by simp)⟩
     · rename_i hin
       rw[if_neg hin];have:=h3 j d hj;rw[aag] at this;exact⟨this.1,rep .pl _ _ this.2 (by simp)⟩
theorem xq (zs:List Value)(n:Nat):(Builtin.zeroCells zs.toArray n).toList=(List.replicate n zs).flatten:=by
 rcases aby zs.length with h0|h0
 · have : zs = [] := aaD h0
   subst this;simp[Builtin.zeroCells]
 · have hlen : ∀ n, ((List.replicate n zs).flatten).length = n * zs.length := fun n => by simp
   apply abe;intro j;unfold Builtin.zeroCells;simp only[acI,acu,Array.toList_range,aap];rcases aaK j (n*zs.length) with hj|hj
   · rw [abr hj, aa3]
     have hm:j % zs.length<zs.length:=Nat.mod_lt _ h0;have key:∀(n j:Nat),j<n*zs.length→((List.replicate n zs).flatten)[j]?=zs[j % zs.length]?:=by
       intro n
       induction n with
       | zero=>intro j hj;omega
       | succ n ih =>
         intro j hj;rw[acy,List.flatten_cons];rcases aaK j zs.length with h1|h1
         · rw[aaH h1,Nat.mod_eq_of_lt h1]
         · rw[aaE h1,ih _ (by rw[acw] at hj;omega),Nat.mod_eq_sub_mod h1]
     rw[key n j hj,aal hm,getElem!_pos _ _ (by simpa using hm)];simp
   · rw [aaR (by simpa using hj), aaR (by rw [hlen]; exact hj)]
     rfl
theorem jW {i:Nat} {zv:AV} {zs:List Value} (ho:o.op=.call { callee:=.builtin .clear,args:=#[x],argTypes:=#[T] }) (hd:o.dst=none) (hnd:Nodup s.s=true) (hT:P.underlying T=some (.slice e)) (hk:bY P e=some k) (hx:s.ev x=some (.vsl id i n)) (hl:s.o.lookup id=some (.arr e xs))
   (hz:zeroOf P e=some zs)(hzs:zs.all Value.oneCell'=true)(hzl:zs.length=k)(hzv:zv.cells=zs.map .sc)(aa:∀b,M0 b→b<w0.w.heap.size) :
   Step P w0 M0 o s (s.cC false id (.arr e (xs.take i++(List.replicate n zv++xs.drop (i+n))))):=by
 rintro a w Q ⟨E,hs⟩;obtain⟨hle,ad,len,cap',hc,hvx⟩:=hs.ev hx e xs hl;have hob:=hs.wok.objs id _ hl;obtain⟨vals,⟨hown,hownF⟩,h2,h3⟩:=hob;have hck:=cL hk;obtain⟨v0,hi0,hv0⟩:∃v0,(P.info? e).bind (·.zero)=some v0∧v0.cells.toList=zs:=by
   unfold zeroOf at hz;rw[aao] at hz;exact hz
 have hzr:∀w,(zeroValue e).run P w=.ok v0 w:=fun w=>by
   rw[abc] at hi0;obtain⟨inf,q1,q2⟩:=hi0;simp[zeroValue,typeInfo,q1,q2]
 have hs':a.eval x=.slice (if cap'=i then ad else ad.map (·.add (i*P.cellsOf e))) n (cap'-i):=by rw[hvx];unfold sliced;rw[Nat.add_sub_cancel_left]
 have hxk':∀u∈xs.take i++(List.replicate n zv++xs.drop (i+n)),(AV.cells u).length=P.cellsOf e:=fun u hu=>by
   rcases aaU.1 hu with hu|hu
   · exact h2 u (abv hu)
   · rcases aaU.1 hu with hu | hu
     · rw[aci hu,hzv,aai,hzl,hck]
     · exact h2 u (aa0 hu)
 have hxl':(xs.take i++(List.replicate n zv++xs.drop (i+n))).length=xs.length:=by simp;omega
 unfold Oper.wp;rcases aby n with hn0|hn0
 · subst hn0
   have hrun:(execOp a.eval o).run P w=.ok (.value (.tuple #[])) w:=by
     generalize (if cap'=i then ad else ad.map (·.add (i*P.cellsOf e)))=A at hs';cases A<;>simp[execOp,ho,resolve,hs',invoke,builtin,Builtin.clear_,run_underlying hT]
   rw[hrun];simp only[Oper.upon,hd,Act.put];have e1:xs.take i++(List.replicate 0 zv++xs.drop (i+0))=xs:=by simp
   rw[e1];exact⟨E,hs.cC false (fun _=>⟨rfl,.inl ⟨e,xs,_,hl,rfl,rfl⟩⟩) hnd aa (fun i hi=>⟨rfl,rfl⟩) (.inr J) none ⟨rfl,rfl,rfl,aak _,fun _ _ _=>rfl⟩ (fun _=>aak _) (fun g hg'=>by cases hg') (fun b hb=>.inl ⟨_,hl,hb⟩) (fun rep sv=>⟨vals,⟨hown,hownF⟩,h2,fun j d hd=>⟨(h3 j d hd).1,rep .pl _ _ (h3 j d hd).2 (by simp)⟩⟩)⟩
 · rcases hown.2 with ⟨hv, hn⟩ | ⟨g, cap, cur, hv, hgb, hhh, hnc, _, hcs, _⟩
   · omega
   · rw [hv] at hc
     simp only[Value.slice.injEq] at hc;obtain⟨rfl,rfl,rfl⟩:=hc;rw[if_neg acK] at hs';simp only[aa3,Addr.add_lit,abg] at hs'
     let us:=(List.replicate n zs).flatten
     have hul:us.length=n*k:=by simp[us,hzl]
     have hone:∀u∈us,u.oneCell'=true:=fun u hu=>by
       obtain⟨l,hl1,hl2⟩:=List.mem_flatten.1 hu;rw[aci hl1] at hl2;exact aaF.1 hzs u hl2
     have hmul:i*k+n*k≤xs.length*k:=by rw[←acg];exact abl _ hle
     have hft:(flat (xs.take i)).length=i*k:=by rw[bO (k:=k) (xs.take i) (fun v hv=>by rw[←hck];exact h2 v (abv hv)),aau,acq acK]
     have hft2:(flat (xs.take (i+n))).length=(i+n)*k:=by rw[bO (k:=k) (xs.take (i+n)) (fun v hv=>by rw[←hck];exact h2 v (abv hv)),aau,acq acK]
     have hflr:∀n,flat (List.replicate n zv)=((List.replicate n zs).flatten).map .sc:=fun n=>by
       induction n with
       | zero=>rfl
       | succ n ih =>
         rw[acy,acy,List.flatten_cons,aas,←ih,←hzv];rfl
     obtain⟨cur',q1,q2,q3⟩:=PI (us:=us) (ms:=us.map .sc) (p:=i*k) (g:=g) (xs':=xs.take i++(List.replicate n zv++xs.drop (i+n))) hs hnd aa hl (by rw[hv];rfl) (by simp) (by rw[hul,hck];exact hmul) (fun j d hd=>by
         rw[aap,aao] at hd;obtain⟨u,hu,rfl⟩:=hd;refine⟨rfl,?_⟩;rw[aag,hu];exact .sc u (hone u (aaW hu))) hxl' hxk' (by
         rw[gg,gg,hflr];have e1:flat xs=flat (xs.take i)++flat (xs.drop i):=by rw[←gg,abn]
         have e2:flat xs=flat (xs.take (i+n))++flat (xs.drop (i+n)):=by rw[←gg,abn]
         unfold rH;rw[aaY]
         congr 1
         · rw[e1,List.take_left' hft]
         · congr 1
           rw[e2,List.drop_left' (by rw[hft2];simp[hul,acg])])
     rw[hhh] at q1;simp only[aaj,Obj.cells.injEq,and_true] at q1;subst q1;have hst:=run_storeCells_at P g (i*k) e us 0 cur w hhh (by simp;omega) hone;simp only[Nat.add_zero] at hst;have hrun:(execOp a.eval o).run P w=.ok (.value (.tuple #[])) (w.setRow g (rH cur.toList (i*k) us).toArray):=by
       obtain⟨m,rfl⟩:∃m,n=m+1:=⟨n-1,acK⟩;have hzc:(Builtin.zeroCells v0.cells (m+1)).toList=us:=by
         have:v0.cells=zs.toArray:=by rw[←hv0]
         rw[this,xq]
       simp[execOp,ho,resolve,hs',invoke,builtin,Builtin.clear_,run_underlying hT,hzr,hzc,hck,hst,rH]
     rw[hrun];simp only[Oper.upon,hd,Act.put];exact⟨E,q3⟩
end
end Go.Am
