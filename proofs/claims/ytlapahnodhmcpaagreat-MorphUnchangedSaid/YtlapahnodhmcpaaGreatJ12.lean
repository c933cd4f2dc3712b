/-
  Part of the proof.
-/
import Derived.Test.YtlapahnodhmcpaaGreatJ0
import Derived.Test.YtlapahnodhmcpaaGreatJ11
import Derived.Test.YtlapahnodhmcpaaGreatJ5
import Derived.Test.YtlapahnodhmcpaaGreatJ10
import Derived.Test.YtlapahnodhmcpaaGreatJ9
import Derived.Lib.AppendStr
set_option linter.unusedVariables false
set_option linter.unusedSectionVars false
set_option linter.unusedSimpArgs false
set_option maxRecDepth 100000
set_option maxHeartbeats 40000000
namespace Go.Am
open Go.RowKit
def Mb (f1 f2:FuncId)(v:Value)(vs:List Value):Prop:=∃p q,vs=[p,q]∧v=.tuple #[.func (.func f1) #[] #[p],.func (.func f2) #[] #[q]]
def Mc (P:Program)(f:FuncId)(ds:List AV)(e:TypeId)(cs:List AV)(f1 f2:FuncId):Prop :=
 cg P f∧∀(w:World)(vs:List Value),vs.length=ds.length→(∀(j:Nat) d,ds[j]?=some d→bJ w (fun _=>False) (vs.getD j undef) d) →
   Calls P f vs.toArray w fun q w'=>∃(b:Nat)(vals:List Value),q=.returned (.tuple #[.func (.func f1) #[] #[.pointer (some ⟨b,0,none⟩)],.func (.func f2) #[] #[.pointer (some ⟨b,0,none⟩)]])∧Below w.heap.size w w'∧w.heap.size≤b ∧
     w'.heap[b]?=some (.cells vals.toArray e (0,0))∧vals.length=cs.length∧∀(j:Nat) d,cs[j]?=some d→AV.leaf d=true∧bJ w' (fun b'=>b'<w.heap.size∨b'=b) (vals.getD j undef) d
def UK (t u:Nat)(e:TypeId)(cs:List AV)(f1 f2:FuncId):Exit→St→Prop
 | .normal,s|.ret,s=>∃id,s.s.lookup t=some (.fn f1 [.bx id])∧s.s.lookup u=some (.fn f2 [.bx id])∧s.o.lookup id=some (.box e (cs.map (.v .pl)))
 | _,_=>False
variable{w:World}{E:Env}{f n u:Nat}{c:Code}{ds:List AV}{cx:Operand}{ats:Array TypeId}
section
variable {P:Program} {w0:Fr}{M0:Nat→Prop}{s:St}{o:Oper}{t:Nat}{e:TypeId}{cs:List AV}{f1 f2:FuncId}
theorem Gf {ob:List (Nat×Ob)}{v:Value}{f:FuncId}{id:Nat}{xs:List SV}(h:bm P M0 w E ob v (.fn f [.bx id]))(hl:ob.lookup id=some (.box e xs)):v=.func (.func f) #[] #[.pointer (some ⟨E.blk id,0,none⟩)]:=by
 obtain⟨vs,h1,h2,h3⟩:=h
 match vs,h2 with
 | [a], _ =>
   have:=h3 0 _ rfl e xs hl;rw[h1];simp only[List.getD_cons_zero] at this;rw[this]
theorem zI {t:Nat}(hf:F7 P f n t u c)(hn:ds.length≤n)
  (h:∀(w0:Fr)(M0:Nat→Prop),(∀b,M0 b→b<w0.w.heap.size)→ao P w0 M0 c (St.enter n .mx ds) (UK t u e cs f1 f2)):Mc P f ds e cs f1 f2:=by
 refine⟨hf.bu,fun w vs hv hr=>?_⟩;have hc:=h (Fr.all w) (fun b=>b<w.heap.size) (fun b hb=>hb);rw[eU] at hc;obtain⟨fn,h1,h2,h3,h4,h5⟩:=hf;refine(dm h1 h2 h3 (R:=fun v E' s' w'=>gr P (Fr.all w) (fun b=>b<w.heap.size) E' s'.o w'∧∃id,s'.o.lookup id=some (.box e (cs.map (.v .pl)))∧v=.tuple #[.func (.func f1) #[] #[.pointer (some ⟨E'.blk id,0,none⟩)],.func (.func f2) #[] #[.pointer (some ⟨E'.blk id,0,none⟩)]]) (by simpa using hn) vs (by simpa using hv) jP (fun j d hd=>?_) hc (fun q s' a' w' E' hq hs=>?_)).mono fun q w' ⟨v,E',s',he,hw,id,hl,hv⟩=>?_
 ·rw[aap,aao] at hd;obtain⟨a,ha,rfl⟩:=hd;have:=hr j a ha;simp only[bm,ei];exact this
 ·have fin:(∃id,s'.s.lookup t=some (.fn f1 [.bx id])∧s'.s.lookup u=some (.fn f2 [.bx id])∧s'.o.lookup id=some (.box e (cs.map (.v .pl))))→∃v,(results fn a'.tmps).run P w'=.ok v w'∧gr P (Fr.all w) (fun b=>b<w.heap.size) E' s'.o w'∧∃id,s'.o.lookup id=some (.box e (cs.map (.v .pl)))∧v=.tuple #[.func (.func f1) #[] #[.pointer (some ⟨E'.blk id,0,none⟩)],.func (.func f2) #[] #[.pointer (some ⟨E'.blk id,0,none⟩)]]:=fun⟨id,q1,q2,q3⟩ =>
   ⟨.tuple #[a'.tmps.getD t undef,a'.tmps.getD u undef],by simp[results,h4],hs.wok,id,q3,by rw[Gf (hs.slots t _ q1).2 q3,Gf (hs.slots u _ q2).2 q3]⟩
  cases q with
  | normal=>exact⟨.inl rfl,fin hq⟩
  | ret=>exact⟨.inr rfl,fin hq⟩
  | exit _=>exact hq.elim
  | goto _=>exact hq.elim
  | panic _=>exact hq.elim
  | outgrown=>exact hq.elim
 ·obtain⟨vals,g1,g2,g3,g4⟩:=hw.objs id _ hl;refine⟨E'.blk id,vals,by rw[he,hv],hw.below.below,acn g2.2,g1,by simpa using g3,fun j d hd=>?_⟩;obtain⟨k1,k2,k3⟩:=g4 j (.v .pl d) (by rw[aap,hd];rfl);exact⟨k1,bJ.cd k3 fun b hb=>hb.imp (fun q=>q) fun q=>⟨id,_,hl,q.symm⟩⟩
theorem xD  {args:Array Operand}  {c:fW} {f:FuncId} {caps:List AV}
   (ho:o.op=.call { callee:=.value cx,args:=args,argTypes:=ats })(hd:o.dst=some t)(hn:Nat.blt t s.n=true)(hpt:Nat.blt t 1000000=true)(hnd:Nodup s.s=true)(hc:s.ev cx=some (.v c (.clo f caps)))(ha:jg s.ev s.o args.toList=some ds)(h:Mc P f (ds++caps) e cs f1 f2)
   (aa:∀b,M0 b→b<w0.w.heap.size):Step P w0 M0 o s ((s.cC true t (.box e (cs.map (.v .pl)))).put t (.hid (Mb f1 f2) [.bx t,.bx t])):=by
 rintro a w Q ⟨E,hs⟩;have hcv:=hs.ev hc;simp only[bm] at hcv;generalize hq:a.eval cx=q at hcv;cases hcv with
 | clo _ vs _ hnc hr =>
   have hv:=l5 hs.wok (fun x e hx=>hs.ev hx) _ _ ha;unfold Oper.wp;rw[fE ho hq h.1];simp only[Oper.upon];have hall:=h.2 w (args.toList.map a.eval++vs) (by simp[hv.1,hnc]) (fun j d hd=>?_)
   · have e1 : (args.toList.map a.eval ++ vs).toArray = args.map a.eval ++ vs.toArray := by apply ab1 ; simp
     rw[e1] at hall;refine hall.mono fun q w' ⟨b,vals,he,hb,hge,g1,g2,g3⟩=>?_
     subst he;simp only[hd];have ht:t<1000000:=acj (aah hpt);obtain⟨E',f1',f2',f3',f4'⟩:∃E':Env,E'.blk t=b∧(∀i,i≠t→E'.blk i=E.blk i)∧E'.cur=E.cur∧E'.sub=E.sub :=
       ⟨{ E with blk:=fun i=>if i=t then b else E.blk i },if_pos rfl,fun i hi=>if_neg hi,rfl,rfl⟩
     refine⟨E',ba.put ?_ (by simpa[St.cC] using hn) ⟨[.pointer (some ⟨b,0,none⟩),.pointer (some ⟨b,0,none⟩)],⟨_,_,rfl,rfl⟩,rfl,fun j c hc=>?_⟩⟩
     · refine hs.cC true (fun q => by cases q) hnd aa (fun i hi => ⟨by rw [f3'], f2' i hi⟩) (.inl (BI ht)) none (dy hb) (fun _ => hb.drawn trivial) (fun g hg => by cases hg) (fun b' hb' => .inr ?_) (fun rep sv => ?_) (fun i hi => by rw [f4'])
       · simp only[bE,f1'] at hb';omega
       · refine ⟨vals, by rw [f1']; exact g1, by rw [f1']; exact hs.wok.hJ aa hge, by simpa using g2, fun j d hd => ?_⟩
         rw[aap,aao] at hd;obtain⟨d0,hd0,rfl⟩:=hd;obtain⟨k1,k2⟩:=g3 j d0 hd0;refine⟨k1,k2.one k1,bJ.cd k2 fun b' hb'=>?_⟩;rcases hb' with hb'|⟨i,ob,q1,q2⟩
         · have:=aa b' hb';have:=hs.wok.below.size;exact .inl acK
         · by_cases hi : i = t
           · subst hi
             rw[ax,if_pos rfl] at q1;simp only[aaj] at q1;subst q1;exact .inr (by simp only[bE,f1'] at q2;exact q2.symm)
           · rw [ax, if_neg hi, cr, aao] at q1
             obtain⟨ob0,q3,rfl⟩:=q1;refine .inl (hs.wok.bF ⟨i,ob0,q3,?_⟩).2;have q2:=iB.1 q2;cases ob0<;>simp only[bE,f2' i hi,f3',f4'] at q2 ⊢<;>exact q2
     · have : c = .bx t ∧ j < 2 := by
         match j,hc with
         | 0,hc=>simp at hc;exact⟨hc.symm,by decide⟩
         | 1,hc=>simp at hc;exact⟨hc.symm,by decide⟩
         | j+2,hc=>simp at hc
       obtain⟨rfl,hj⟩:=this;intro e' cs' _
       match j,hj with
       | 0,_=>simp[f1']
       | 1,_=>simp[f1']
   · rw [aag]
     rcases aaK j ds.length with hlt|hge
     · rw [aaH hlt] at hd
       have:=hv.2 j d hd;rw[aaH (by simp[hv.1];omega)];rwa [aag] at this
     · rw [aaE hge] at hd
       have:=hr _ d hd;rw[aaE (by simp[hv.1];omega)];simp only[aai,hv.1];rw[aag] at this;exact this.cd (fun b hb=>hb.elim)
variable {ρ:Operand→Option SV}{ob:List (Nat×Ob)}{x:Operand}{c1 c2:qI}
theorem Aw (ho:o.op=.extract x 0)(hx:ρ x=some (.hid (Mb f1 f2) [c1,c2])):Pure P w0 M0 o ρ ob (.fn f1 [c1]) :=
 aD fun E w ev hw h=>by
  obtain⟨vs,⟨p,q,rfl,hv⟩,h2,h3⟩:=h x _ hx;refine⟨.func (.func f1) #[] #[p],w,by simp[execOp,ho,hv,Instr.extract],.refl _ _,[p],rfl,rfl,fun j c hc=>?_⟩;cases j with
  | zero=>exact h3 0 c (by simpa using hc)
  | succ j=>simp at hc
theorem Ax (ho:o.op=.extract x 1)(hx:ρ x=some (.hid (Mb f1 f2) [c1,c2])):Pure P w0 M0 o ρ ob (.fn f2 [c2]) :=
 aD fun E w ev hw h=>by
  obtain⟨vs,⟨p,q,rfl,hv⟩,h2,h3⟩:=h x _ hx;refine⟨.func (.func f2) #[] #[q],w,by simp[execOp,ho,hv,Instr.extract],.refl _ _,[q],rfl,rfl,fun j c hc=>?_⟩;cases j with
  | zero=>exact h3 1 c (by simpa using hc)
  | succ j=>simp at hc
end
section
variable {P:Program} {w0:Fr}{M0:Nat→Prop}{Q:Exit→St→Prop}{k:List Fm}{s:St}
theorem DP {α:Type}:∀{l:List α}{j:Nat}{x:α},l[j]?=some x→l=l.take j++x :: l.drop (j+1)
 | [],j,x,h=>by simp at h
 | y :: l,0,x,h=>by simp at h;subst h;rfl
 | y :: l, j + 1, x, h => by
   have:=DP (l:=l) (j:=j) (x:=x) (by simpa using h);show y :: l=y :: (l.take j++x :: l.drop (j+1));rw[←this]
theorem yG {ops:Array Oper}{id:Nat}{o:Oper}(j:Nat)(hmd:w0.md=.plain)(ho:ops.toList[j]?=some o)
  (h:At P w0 M0 (fun _ s1=>∃s2,L8 P w0 M0 o s1 s2∧At P w0 M0 Q k (.ops ops (ops.toList.drop (j+1))) s2) [] (.ops ops (ops.toList.take j)) s):At P w0 M0 Q k (.code (.region id ops false)) s :=
 BX hmd _ _ o (DP ho) h
theorem XQ {g:Operand}{ps:Array Tmp}{asg bod:Code}{gf:FuncId}{dc:SV}{csI capsC:List SV}(ρ:List (Nat×Nat))(oc0 ocN:List (Nat×Ob))(ts:List Nat)(cps:List qI){svs:List SV}(hmd:w0.md=.marks)(aa:∀b,M0 b→b<w0.w.heap.size)
  (hit:∀l r,r.state=.ready→r.pending=none→r.tmps.size=s.n→r.params=ps→r.assign=asg→r.body=bod→Au P gf l r (.hid (yR l r ts) cps :: capsC) oc0 ocN)
  (hg:s.ev g=some dc)(hcal:nE dc=some (gf,csI))(hts:uu s.s ts=some svs)(hci:lj s ρ (cR ρ oc0) csI capsC)(hcaps:lj s ρ (cR ρ oc0) svs (cps.map qI.sv))(hob:oB s ρ oc0)
  (hnd:Nodup s.s=true)(hinj:jo (cR ρ oc0)=true)(hsame:oc0.map (fun p=>(p.1,p.2.kind))=ocN.map (fun p=>(p.1,p.2.kind)))
  (hbig:oc0.all (fun p=>Nat.beq p.2.kind 0||Nat.ble 1000000 p.1)=true)(hpl:ocN.all (fun p=>p.2.plain (ocN.map (·.1)))=true)
  (hq:At P w0 M0 Q k (.done .normal) (s.after ρ ocN)):At P w0 M0 Q k (.code (.rangeFunc g ps asg bod)) s :=
 xB ρ oc0 ocN ts cps svs hmd hnd hg hcal hci hts hcaps hit hob hinj hsame hbig hpl aa hq
theorem cP {o' o1:List (Nat×Ob)}{s:St}(ho:wg s o1)(e:o1=o'):UI o' .normal s:=by subst e;exact ho.out
theorem gy {t id:Nat}{e:TypeId}{cs:List AV}{cs1:List SV}{f1 f2:FuncId}{s:St}(h1:s.s.lookup t=some (.fn f1 [.bx id]))(h2:s.s.lookup u=some (.fn f2 [.bx id]))(h3:s.o.lookup id=some (.box e cs1))(hc:cs1=cs.map (.v .pl)):UK t u e cs f1 f2 .ret s:=by subst hc;exact⟨id,h1,h2,h3⟩
end
variable{v:Nat}
section
variable {P:Program}
theorem pV {t:Nat}(hf:RE P f n t u v c){r r' r'':AV}(hn:ds.length≤n)
   (h:∀(w0:Fr)(M0:Nat→Prop),(∀b,M0 b→b<w0.w.heap.size)→ao P w0 M0 c (St.enter n .pl ds) (L0 t u v r r' r'')):aU P f ds (.p (.tup [r,r',r''])):=by
 refine⟨hf.bu,fun w M vs hM hv hr=>?_⟩;have h0:=h (Fr.all w) M hM;rw[eU] at h0;obtain⟨fn,h1,h2,h3,h4,h5⟩:=hf;refine(dm h1 h2 h3 (R:=fun v E' s' w'=>Below w.heap.size w w'∧iJ P w' M (fun b=>b<w.heap.size) v (.p (.tup [r,r',r'']))) (by simpa using hn) vs (by simpa using hv) jP (fun j d hd=>?_) h0 (fun e s' a' w' E' hq hs=>?_)).mono fun e w' ⟨v,E',s',he,hR⟩=>⟨v,he,hR⟩
 · rw [aap, aao] at hd
   obtain⟨a,ha,rfl⟩:=hd;have:=hr j a ha;simp only[bm,ei];exact this.cd (fun b hb=>Or.elim hb id (fun h=>False.elim h))
 · have fin : ((∃ q, (s'.s.lookup t).bind (bR s'.o) = some q ∧ q.data = r) ∧ (∃ q, (s'.s.lookup u).bind (bR s'.o) = some q ∧ q.data = r') ∧ (∃ q, (s'.s.lookup v).bind (bR s'.o) = some q ∧ q.data = r'')) →
       ∃v,(results fn a'.tmps).run P w'=.ok v w'∧Below w.heap.size w w'∧iJ P w' M (fun b=>b<w.heap.size) v (.p (.tup [r,r',r''])):=by
     rintro⟨⟨q1,hq1,hd1⟩,⟨q2,hq2,hd2⟩,⟨q3,hq3,hd3⟩⟩;have one:∀x q,(s'.s.lookup x).bind (bR s'.o)=some q→bJ w' M (a'.tmps.getD x undef) q.data:=by
       intro x q hx;cases hl:s'.s.lookup x with
       | none=>rw[hl] at hx;cases hx
       | some sv =>
         rw[hl] at hx;exact(dY hs.wok (hs.slots x sv hl).2 hx).rep hM
     have r1:=one t q1 hq1;have r2:=one u q2 hq2;have r3:=one v q3 hq3;rw[hd1] at r1;rw[hd2] at r2;rw[hd3] at r3;refine⟨.tuple #[a'.tmps.getD t undef,a'.tmps.getD u undef,a'.tmps.getD v undef],by simp[results,h4],hs.wok.below.below,.tup [a'.tmps.getD t undef,a'.tmps.getD u undef,a'.tmps.getD v undef] [r,r',r''] J (fun j d hd=>by
       match j,hd with
       | 0,hd=>simp at hd;subst hd;exact r1
       | 1,hd=>simp at hd;subst hd;exact r2
       | 2,hd=>simp at hd;subst hd;exact r3
       | j+3,hd=>simp at hd)⟩
   cases e with
   | normal=>exact⟨.inl rfl,fin hq⟩
   | ret=>exact⟨.inr rfl,fin hq⟩
   | exit _=>exact hq.elim
   | goto _=>exact hq.elim
   | panic _=>exact hq.elim
   | outgrown=>exact hq.elim
end
def PL (v:Value)(vs:List Value):Prop:=v=.tuple vs.toArray
def xE:SV→Option AV
 | .v .pl (.sc (.slice none 0 0))=>some (.sl [])
 | .v .pl d=>some d
 | .v _ (.sc u)=>some (.sc u)
 | _=>none
def RH (o:List (Nat×Ob))(d:SV)(e:TypeId)(xs:List AV):Prop:=(∃id,d=.own id∧o.lookup id=some (.arr e xs))∨(d=.v .pl (.sc (.slice none 0 0))∧xs=[])
def Me (P:Program)(f:FuncId)(ds:List AV)(r:AV)(e:TypeId)(xs:List AV)(r':AV):Prop :=
 cg P f∧∀(w:World)(M:Nat→Prop)(vs:List Value),(∀b,M b→b<w.heap.size)→vs.length=ds.length→(∀(j:Nat) d,ds[j]?=some d→bJ w M (vs.getD j undef) d) →
   Calls P f vs.toArray w fun q w'=>∃a b c,q=.returned (.tuple #[a,b,c])∧Below w.heap.size w w'∧bJ w' (fun k=>M k∨b.ownBlock=some k) a r∧iJ P w' M (fun k=>k<w.heap.size) b (.fresh e xs)∧bJ w' (fun k=>M k∨b.ownBlock=some k) c r'
def S0 (t u v:Nat)(r:AV)(e:TypeId)(xs:List AV)(r':AV):Exit→St→Prop
 | .normal,s|.ret,s=>(s.s.lookup t).bind xE=some r∧(∃d,s.s.lookup u=some d∧RH s.o d e xs)∧(s.s.lookup v).bind xE=some r'
 | _,_=>False
section
variable {P:Program} {w0:Fr}{M0:Nat→Prop}
theorem PM {ob:List (Nat×Ob)}{v:Value}{s:SV}{r:AV}(h:bm P M0 w E ob v s)(hr:xE s=some r):bJ w (cB M0 (owned E ob) .pl) v r:=by
 unfold xE at hr;split at hr
 ·simp only[aaj] at hr;subst hr;cases h;exact .sl none 0 0 [] 0 (fun _=>undef) J (aak _) (by simp) (fun h=>absurd h acK) (fun j d hd=>by simp[flat] at hd) (fun j d hd=>by simp[flat] at hd)
 ·simp only[aaj] at hr;subst hr;exact h
 ·simp only[aaj] at hr;subst hr;cases h;exact .sc _ ‹_›
 ·cases hr
theorem JG {M K:Nat→Prop}{e:TypeId}:iJ P w M K (.slice none 0 0) (.fresh e []) :=
 ⟨[],⟨⟨by simp,.inl ⟨rfl,rfl⟩⟩,(fun b hb=>by cases hb)⟩,(fun x hx=>by cases hx),fun j d hd=>by simp[flat] at hd⟩
theorem zJ {t:Nat}  (hf:RE P f n t u v c)  {r r':AV} {e:TypeId} {xs:List AV} (hn:ds.length≤n)
   (h:∀(w0:Fr)(M0:Nat→Prop),(∀b,M0 b→b<w0.w.heap.size)→ao P w0 M0 c (St.enter n .pl ds) (S0 t u v r e xs r')):Me P f ds r e xs r':=by
 refine⟨hf.bu,fun w M vs hM hv hr=>?_⟩;have h0:=h (Fr.all w) M hM;rw[eU] at h0;obtain⟨fn,h1,h2,h3,h4,h5⟩:=hf;refine(dm h1 h2 h3 (R:=fun z E' s' w'=>∃a b c,z=.tuple #[a,b,c]∧Below w.heap.size w w'∧bJ w' (fun k=>M k∨b.ownBlock=some k) a r∧iJ P w' M (fun k=>k<w.heap.size) b (.fresh e xs)∧bJ w' (fun k=>M k∨b.ownBlock=some k) c r') (by simpa using hn) vs (by simpa using hv) jP (fun j d hd=>?_) h0 (fun e s' a' w' E' hq hs=>?_)).mono fun q w' ⟨z,E',s',he,a,b,c,hz,hR⟩=>⟨a,b,c,by rw[he,hz],hR⟩
 · rw [aap, aao] at hd
   obtain⟨a,ha,rfl⟩:=hd;have:=hr j a ha;simp only[bm,ei];exact this.cd (fun b hb=>Or.elim hb id (fun h=>False.elim h))
 · rename_i e0
   have fin:((s'.s.lookup t).bind xE=some r∧(∃d,s'.s.lookup u=some d∧RH s'.o d e0 xs)∧(s'.s.lookup v).bind xE=some r') →
       ∃z,(results fn a'.tmps).run P w'=.ok z w'∧∃a b c,z=.tuple #[a,b,c]∧Below w.heap.size w w'∧bJ w' (fun k=>M k∨b.ownBlock=some k) a r∧iJ P w' M (fun k=>k<w.heap.size) b (.fresh e0 xs)∧bJ w' (fun k=>M k∨b.ownBlock=some k) c r':=by
     rintro⟨q1,⟨d,q2,q3⟩,q4⟩;have one:∀x q,(s'.s.lookup x).bind xE=some q→bJ w' (cB M (owned E' s'.o) .pl) (a'.tmps.getD x undef) q:=by
       intro x q hx;cases hl:s'.s.lookup x with
       | none=>rw[hl] at hx;cases hx
       | some sv =>
         rw[hl] at hx;exact PM (hs.slots x sv hl).2 hx
     have r1:=one t r q1;have r2:=one v r' q4;have hm:=(hs.slots u d q2).2;refine⟨.tuple #[a'.tmps.getD t undef,a'.tmps.getD u undef,a'.tmps.getD v undef],by simp[results,h4],_,_,_,rfl,hs.wok.below.below,?_,?_,?_⟩
     · refine r1.cd fun k hk => ?_
       rcases hk with hk|hk
       · exact .inl hk
       · rcases q3 with ⟨id, rfl, hl⟩ | ⟨rfl, rfl⟩
         · rw [hm e0 xs hl] at hk
           exact .inr ⟨id,_,hl,hk⟩
         · generalize a'.tmps.getD u undef = z at hm hk
           cases hm;cases hk
     · rcases q3 with ⟨id, rfl, hl⟩ | ⟨rfl, rfl⟩
       · have := dY (P := P) (w0 := (Fr.all w).plain) (r := .fresh e0 xs) hs.wok hm (by simp only [bR, hl])
         exact this
       · generalize a'.tmps.getD u undef = z at hm
         cases hm;exact JG
     · refine r2.cd fun k hk => ?_
       rcases hk with hk|hk
       · exact .inl hk
       · rcases q3 with ⟨id, rfl, hl⟩ | ⟨rfl, rfl⟩
         · rw [hm e0 xs hl] at hk
           exact .inr ⟨id,_,hl,hk⟩
         · generalize a'.tmps.getD u undef = z at hm hk
           cases hm;cases hk
   cases e with
   | normal=>exact⟨.inl rfl,fin hq⟩
   | ret=>exact⟨.inr rfl,fin hq⟩
   | exit _=>exact hq.elim
   | goto _=>exact hq.elim
   | panic _=>exact hq.elim
   | outgrown=>exact hq.elim
theorem BZ {t id:Nat}{r r' q q':AV}{e:TypeId}{xs xs':List AV}{s:St}(h:(s.s.lookup t).bind xE=some q)(h1:s.s.lookup u=some (.own id))(h2:s.o.lookup id=some (.arr e xs'))(h3:(s.s.lookup v).bind xE=some q')(he:q=r∧xs'=xs∧q'=r'):S0 t u v r e xs r' .ret s:=by obtain⟨rfl,rfl,rfl⟩:=he;exact⟨h,⟨_,h1,.inl ⟨_,rfl,h2⟩⟩,h3⟩
theorem tf {t:Nat}{r r' q q':AV}{e:TypeId}{xs:List AV}{s:St}(h:(s.s.lookup t).bind xE=some q)(h1:s.s.lookup u=some (.v .pl (.sc (.slice none 0 0))))(h3:(s.s.lookup v).bind xE=some q')(he:q=r∧xs=[]∧q'=r'):S0 t u v r e xs r' .ret s:=by obtain⟨rfl,rfl,rfl⟩:=he;exact⟨h,⟨_,h1,.inr ⟨rfl,rfl⟩⟩,h3⟩
theorem JH {s:St}{t b:Nat}{v:Value}{e:TypeId}{xs:List AV}{kill:Bool}(h:owned { E with cur:=fun i=>if i=t then v else E.cur i } (s.cC kill t (.arr e xs)).o b):owned E s.o b∨v.ownBlock=some b:=by
 obtain⟨i,ob,h3,h4⟩:=h;by_cases hi:i=t
 ·subst hi;rw[show(s.cC kill i (.arr e xs)).o.lookup i=_ from by show(ins i _ _).lookup i=_;rw[ax,if_pos rfl]] at h3;simp only[aaj] at h3;subst h3;simp only[bE,if_true] at h4;exact .inr h4
 ·rw[show(s.cC kill t (.arr e xs)).o.lookup i=_ from by show(ins t _ _).lookup i=_;rw[ax,if_neg hi,cr],aao] at h3;obtain⟨ob0,h5,rfl⟩:=h3;refine .inl ⟨i,ob0,h5,?_⟩;have h4:=iB.1 h4;cases ob0<;>simp only[bE,hi,if_false] at h4 ⊢<;>exact h4
variable {s:St} {o:Oper}{t:Nat}{e:TypeId}{xs:List AV}{r r':AV}
theorem xF {args:Array Operand}{c:fW}{f:FuncId}
   (ho:o.op=.call { callee:=.value cx,args:=args,argTypes:=ats })(hd:o.dst=some t)(hn:Nat.blt t s.n=true)(hnd:Nodup s.s=true)(hc:s.ev cx=some (.v c (.clo f [])))(ha:iV s.ev s.o args.toList=some (.pl,ds))(h:Me P f ds r e xs r')
   (aa:∀b,M0 b→b<w0.w.heap.size):Step P w0 M0 o s ((s.cC true t (.arr e xs)).put t (.hid PL [.pl r,.ow t,.pl r'])):=by
 rintro a w Q ⟨E,hs⟩;have hcv:=hs.ev hc;simp only[bm] at hcv;generalize hq:a.eval cx=q at hcv;cases hcv with
 | clo _ vs _ hnc hr =>
   obtain⟨g1,g2⟩:=mP hs.wok (fun x e hx=>hs.ev hx) _ _ ds ha;have hvs:vs=[]:=aaD (by simpa using hnc);subst hvs;unfold Oper.wp;rw[fE ho hq h.1];simp only[Oper.upon];have PD:∀b,cB M0 (owned E s.o) .pl b→b<w.heap.size:=by
     intro b hb;rcases hb with hb|hb
     · have:=aa b hb;have:=hs.wok.below.size;omega
     · exact(hs.wok.bF hb).2
   have hall:=h.2 w (cB M0 (owned E s.o) .pl) (args.toList.map a.eval) PD (by simpa using g1) g2;have e1:(args.toList.map a.eval).toArray=args.map a.eval++#[]:=by apply ab1 ;simp
   rw[e1] at hall;refine hall.mono fun q w' ⟨z1,z2,z3,he,hb,ra,rb,rc⟩=>?_
   subst he;obtain⟨vals,h1,h2,h3⟩:=rb;simp only[hd];have hcl:∀k,cB M0 (owned { E with cur:=fun i=>if i=t then z2 else E.cur i } (s.cC true t (.arr e xs)).o) .pl k→cB M0 (owned E s.o) .pl k∨z2.ownBlock=some k:=fun k hk=>by
     rcases hk with hk|hk
     · exact .inl (.inl hk)
     · exact(JH hk).imp .inr id
   refine⟨{ E with cur:=fun i=>if i=t then z2 else E.cur i },ba.put ?_ (by simpa[St.cC] using hn) ⟨[z1,z2,z3],rfl,rfl,fun j c hc=>?_⟩⟩
   · refine hs.cC true (fun h => by cases h) hnd aa (fun i hi => ⟨by simp [hi], rfl⟩) (.inr J) none (dy hb) (fun _ => hb.drawn trivial) (fun g hg => by cases hg) (fun b hb => .inr ?_) (fun rep _ => ?_)
     · simp only [bE, if_true] at hb
       exact acn (h1.2 b hb)
     · refine ⟨vals, ⟨by simpa using h1.1, fun b hb => hs.wok.hJ aa (acn (h1.2 b (by simpa using hb)))⟩, h2, fun j d hd => ⟨(h3 j d hd).1, ?_⟩⟩
       exact(h3 j d hd).2.cd hcl
   · match j, hc with
     | 0,hc=>simp only[aaN,aaj] at hc;subst hc;exact ra.cd hcl
     | 1,hc=>simp only[abw,aaN,aaj] at hc;subst hc;intro e' xs' _;simp
     | 2,hc=>simp only[abw,aaN,aaj] at hc;subst hc;exact rc.cd hcl
     | j+3,hc=>simp at hc
variable {ρ:Operand→Option SV}{ob:List (Nat×Ob)}{x:Operand}
theorem Ay {i:Nat}{caps:List qI}{c:qI}(ho:o.op=.extract x i)(hx:ρ x=some (.hid PL caps))(hc:caps[i]?=some c):Pure P w0 M0 o ρ ob c.sv :=
 aD fun E w ev hw h=>by
  obtain⟨vs,hv,h2,h3⟩:=h x _ hx;have hlt:i<vs.length:=by rw[h2];exact(aaz.1 hc).1
  have h4:=h3 i c hc;rw[aag,aal hlt] at h4;refine⟨vs[i],w,by simp[execOp,ho,show ev x=_ from hv,Instr.extract,hlt],.refl _ _,?_⟩;cases c with
  | bx id=>exact h4
  | pl d=>exact h4
  | ow id=>exact h4
  | om id=>exact h4
end
def Mf (P:Program)(f:FuncId)(e:TypeId)(fc:FuncId):Prop :=
 cg P f∧∀(w:World)(v:Value),v.oneCell'=true→Calls P f #[v] w fun q w'=>∃b,q=.returned (.func (.func fc) #[] #[.pointer (some ⟨b,0,none⟩)])∧Below w.heap.size w w'∧w.heap.size≤b∧w'.heap[b]?=some (.cells #[v] e (0,0))
def UL (t:Nat)(e:TypeId)(v:Value)(fc:FuncId):Exit→St→Prop
 | .normal,s|.ret,s=>∃id,s.s.lookup t=some (.fn fc [.bx id])∧s.o.lookup id=some (.box e [.v .mx (.sc v)])
 | _,_=>False
section
variable {P:Program} {w0:Fr}{M0:Nat→Prop}{s:St}{o:Oper}{t:Nat}{e:TypeId}{fc:FuncId}
theorem zK {t:Nat}(hf:HO P f n t c)(hn:1≤n)
   (h:∀(v:Value)(w0:Fr)(M0:Nat→Prop),(∀b,M0 b→b<w0.w.heap.size)→ao P w0 M0 c (St.enter n .mx [.sc v]) (UL t e v fc)):Mf P f e fc:=by
 refine⟨hf.bu,fun w v hv=>?_⟩;have hc:=h v (Fr.all w) (fun b=>b<w.heap.size) (fun b hb=>hb);rw[eU] at hc;obtain⟨fn,h1,h2,h3,h4,h5⟩:=hf;refine(dm h1 h2 h3 (R:=fun z E' s' w'=>gr P (Fr.all w) (fun b=>b<w.heap.size) E' s'.o w'∧∃id,s'.o.lookup id=some (.box e [.v .mx (.sc v)])∧z=.func (.func fc) #[] #[.pointer (some ⟨E'.blk id,0,none⟩)]) (by simpa using hn) [v] (by simp) jP (fun j d hd=>?_) hc (fun q s' a' w' E' hq hs=>?_)).mono fun q w' ⟨z,E',s',he,hw,id,hl,hz⟩=>?_
 · cases j with
   | zero =>
     simp only[aa6,abu,aaN,aaj] at hd;subst hd;exact .sc v hv
   | succ j=>simp at hd
 · have fin : (∃ id, s'.s.lookup t = some (.fn fc [.bx id]) ∧ s'.o.lookup id = some (.box e [.v .mx (.sc v)])) → ∃ z, (results fn a'.tmps).run P w' = .ok z w' ∧ gr P (Fr.all w) (fun b => b < w.heap.size) E' s'.o w' ∧ ∃ id, s'.o.lookup id = some (.box e [.v .mx (.sc v)]) ∧ z = .func (.func fc) #[] #[.pointer (some ⟨E'.blk id, 0, none⟩)] := fun ⟨id, q1, q3⟩ =>
     ⟨a'.tmps.getD t undef,by simp[results,h4],hs.wok,id,q3,Gf (hs.slots t _ q1).2 q3⟩
   cases q with
   | normal=>exact⟨.inl rfl,fin hq⟩
   | ret=>exact⟨.inr rfl,fin hq⟩
   | exit _=>exact hq.elim
   | goto _=>exact hq.elim
   | panic _=>exact hq.elim
   | outgrown=>exact hq.elim
 · obtain ⟨vals, g1, g2, g3, g4⟩ := hw.objs id _ hl
   have g5:bm P (fun b=>b<w.heap.size) w' E' s'.o (vals.getD 0 undef) (.v .mx (.sc v)):=(g4 0 _ rfl).2.2
   match vals,g3,g5 with
   | [a], _, g5 =>
     have:a=v:=by
       simp only[List.getD_cons_zero,bm] at g5;cases g5;rfl
     subst this;exact⟨E'.blk id,by rw[he,hz],hw.below.below,acn g2.2,g1⟩
theorem Mg {id:Nat}{v:Value}(h:s.s.lookup t=some (.fn fc [.bx id]))(h':s.o.lookup id=some (.box e [.v .mx (.sc v)])):UL t e v fc .ret s:=⟨id,h,h'⟩
theorem DQ {y:Operand}{j:Nat}{T:TypeId}{cs:List SV}(hy:s.ev y=some (.pbox j 0))(hj:s.o.lookup j=some (.box T cs)):∀(E:Env)(a:Act)(w:World),ba P w0 M0 E s a w→(a.eval y).oneCell'=true:=fun E a w hs=>by rw[hs.ev hy T cs hj];rfl
theorem Gg {y:Operand}{c:fW}{f:FuncId}{d0:SV}
   (ho:o.op=.call { callee:=.value cx,args:=#[y],argTypes:=ats })(hd:o.dst=some t)(hn:Nat.blt t s.n=true)(hpt:Nat.blt t 1000000=true)(hnd:Nodup s.s=true)(hc:s.ev cx=some (.v c (.clo f [])))(hy:s.ev y=some d0)(hst:d0.stays true t=true)(hlf:d0.leaf=true)
   (hone:∀(E:Env)(a:Act)(w:World),ba P w0 M0 E s a w→(a.eval y).oneCell'=true)(h:Mf P f e fc)
   (aa:∀b,M0 b→b<w0.w.heap.size):Step P w0 M0 o s ((s.cC true t (.box e [d0])).put t (.fn fc [.bx t])):=by
 rintro a w Q ⟨E,hs⟩;have hcv:=hs.ev hc;simp only[bm] at hcv;generalize hq:a.eval cx=q at hcv;cases hcv with
 | clo _ vs _ hnc hr =>
   have hvs:vs=[]:=aaD (by simpa using hnc);subst hvs;unfold Oper.wp;rw[fE ho hq h.1];simp only[Oper.upon];have hall:=h.2 w (a.eval y) (hone E a w hs);have e1:(#[a.eval y]:Array Value)=(#[y]:Array Operand).map a.eval++([]:List Value).toArray:=by simp
   rw[e1] at hall;refine hall.mono fun q w' ⟨b,he,hb,hge,g1⟩=>?_
   rw[←e1] at g1;subst he;simp only[hd];have ht:t<1000000:=acj (aah hpt);obtain⟨E',f1',f2',f3',f4'⟩:∃E':Env,E'.blk t=b∧(∀i,i≠t→E'.blk i=E.blk i)∧E'.cur=E.cur∧E'.sub=E.sub :=
     ⟨{ E with blk:=fun i=>if i=t then b else E.blk i },if_pos rfl,fun i hi=>if_neg hi,rfl,rfl⟩
   refine⟨E',ba.put ?_ (by simpa[St.cC] using hn) ⟨[.pointer (some ⟨b,0,none⟩)],rfl,rfl,fun j c hc=>?_⟩⟩
   · refine hs.cC true (fun q => by cases q) hnd aa (fun i hi => ⟨by rw [f3'], f2' i hi⟩) (.inl (BI ht)) none (dy hb) (fun _ => hb.drawn trivial) (fun g hg => by cases hg) (fun b' hb' => .inr ?_) (fun rep sv => ?_) (fun i hi => by rw [f4'])
     · simp only[bE,f1'] at hb';omega
     · refine ⟨[a.eval y], by rw [f1']; exact g1, by rw [f1']; exact hs.wok.hJ aa hge, rfl, fun j d hd => ?_⟩
       cases j with
       | zero =>
         simp only[aaN,aaj] at hd;subst hd;exact⟨hlf,hone E a w hs,sv _ _ (hs.ev hy) hst⟩
       | succ j=>simp at hd
   · cases j with
     | zero =>
       simp only[aaN,aaj] at hc;subst hc;intro e' cs' _;simp[f1']
     | succ j=>simp at hc
end
section
variable {P:Program} {w0:Fr}{M0:Nat→Prop}
def PN (P : Program) (f : FuncId) (n t u : Nat) (T : TypeId) (k v : Nat) (c : Code) : Prop := ∃ fn, P.funcs[f]? = some fn ∧ fn.body = some c ∧ fn.ntmps = n ∧ fn.results = #[.tmp t, .cell u T, .tmp v] ∧ (fn.name == "runtime.NumGoroutine") = false ∧ bo P T = some true ∧ bY P T = some k
theorem PN.bu {t k:Nat}{T:TypeId}(h:PN P f n t u T k v c):cg P f:=by obtain⟨fn,h1,h2,_,_,h5,_⟩:=h;exact⟨fn,h1,h5,by rw[h2];rfl⟩
theorem dn {t k:Nat}{T:TypeId}(hf:BR P f n t T k u c){r r':AV}(hn:ds.length≤n)
   (h:∀(w0:Fr)(M0:Nat→Prop),(∀b,M0 b→b<w0.w.heap.size)→ao P w0 M0 c (St.enter n .pl ds) (RD t k u r r')):aU P f ds (.p (.tup [r,r'])):=by
 refine⟨hf.bu,fun w M vs hM hv hr=>?_⟩;have h0:=h (Fr.all w) M hM;rw[eU] at h0;obtain⟨fn,h1,h2,h3,h4,h5,h6,h7⟩:=hf;refine(dm h1 h2 h3 (R:=fun v E' s' w'=>Below w.heap.size w w'∧iJ P w' M (fun b=>b<w.heap.size) v (.p (.tup [r,r']))) (by simpa using hn) vs (by simpa using hv) jP (fun j d hd=>?_) h0 (fun e s' a' w' E' hq hs=>?_)).mono fun e w' ⟨v,E',s',he,hR⟩=>⟨v,he,hR⟩
 · rw [aap, aao] at hd
   obtain⟨a,ha,rfl⟩:=hd;have:=hr j a ha;exact this.cd (fun b hb=>Or.elim hb id (fun h=>by rw[ei] at h;exact h.elim))
 · have fin : ((∃ q, ((s'.s.lookup t).bind (sb s'.o k)).bind (bR s'.o) = some q ∧ q.data = r) ∧ (∃ q, (s'.s.lookup u).bind (bR s'.o) = some q ∧ q.data = r')) →
       ∃v,(results fn a'.tmps).run P w'=.ok v w'∧Below w.heap.size w w'∧iJ P w' M (fun b=>b<w.heap.size) v (.p (.tup [r,r'])):=by
     rintro⟨⟨q1,hb,hd1⟩,⟨q2,hu,hd2⟩⟩;rw[abc] at hb;obtain⟨sv',hb,hret⟩:=hb;rw[abc] at hb;obtain⟨sv,hl,hb⟩:=hb;rw[abc] at hu;obtain⟨su,hlu,hretu⟩:=hu;obtain⟨v,g1,g2⟩:=iD h6 h7 hs.wok (hs.slots t sv hl).2 hb;have r1:=(dY hs.wok g2 hret).rep (fun b hb=>hM b hb);have r2:=(dY hs.wok (hs.slots u su hlu).2 hretu).rep (fun b hb=>hM b hb);rw[hd1] at r1;rw[hd2] at r2;refine⟨.tuple #[v,a'.tmps.getD u undef],?_,hs.wok.below.below,.tup [v,a'.tmps.getD u undef] [r,r'] J (fun j d hd=>by
       match j,hd with
       | 0,hd=>simp at hd;subst hd;exact r1
       | 1,hd=>simp at hd;subst hd;exact r2
       | j+2,hd=>simp at hd)⟩
     have g1':((Sem.run P (asAddr (a'.tmps[t]?.getD undef)) w').andThen fun x w=>Sem.run P (loadVar T x) w)=.ok v w':=by simpa using g1
     simp[results,h4,Sem.run_bind];revert g1';cases Sem.run P (asAddr (a'.tmps[t]?.getD undef)) w' with
     | ok a w2=>intro g;simp only[Result.andThen_ok] at g ⊢;rw[g];rfl
     | _=>intro g;exact absurd g (by simp[Result.andThen])
   cases e with
   | normal=>exact⟨.inl rfl,fin hq⟩
   | ret=>exact⟨.inr rfl,fin hq⟩
   | exit _=>exact hq.elim
   | goto _=>exact hq.elim
   | panic _=>exact hq.elim
   | outgrown=>exact hq.elim
end
section
variable {P:Program} {w0:Fr}{M0:Nat→Prop}{ops:Array Oper}{Q:St→Prop}
theorem cD {G:List (Nat×SV)}{id:Nat}(h:(G.all fun p=>p.2.stays false id)=true){d:SV}(hl:G.lookup u=some d):d.stays false id=true:=aaF.1 h _ (dA hl)
theorem b7 {o:Oper}{X:List (Nat×SV)}{o1 o2:List (Nat×Ob)}{T e:TypeId}{c:fW}{a0:AV}{cs:List SV}{k id off:Nat}(ho:o.op=.store T (.tmp u) (.tmp v))(hd:o.dst=none)(hnd:Nodup X=true)(hk:bY P T=some k)(hu:X.lookup u=some (.pbox id off))(hl:o1.lookup id=some (.box e cs))(hv:X.lookup v=some (.v c a0))
  (hnt:jm a0=true)(hc:c≠.vw)(hn:(c3 (.v c a0)).length=k)(hle:Nat.ble (off+k) cs.length=true)(hs:∀t d,X.lookup t=some d→d.stays false id=true)(ho2:ins id (.box e (rH (c5 id cs) off (c3 (.v c a0)))) (iH false id o1)=o2)(aa:∀b,M0 b→b<w0.w.heap.size) :
  ∃s',Step P w0 M0 o ⟨n,X,o1⟩ s'∧fF P w0 M0 s' ⟨n,X,o2⟩ :=
 ⟨_,aW (s:=⟨n,X,o1⟩) ho hd hnd hk hu hl hv hnt hc hn hle aa,eO rfl ho2.symm fun t d h=>iE (fun e=>e.stays false id) X t d hnd h (hs t d h)⟩
end
section
variable {P:Program} {w0:Fr}{M0:Nat→Prop}
variable {o:Oper} {s:St}{x y:Operand}{T U e:TypeId}{t id:Nat}{xs:List AV}{l:List UInt8}
end
open Go
section
variable {P:Program} {w0:Fr}{M0:Nat→Prop}
end
end Go.Am
