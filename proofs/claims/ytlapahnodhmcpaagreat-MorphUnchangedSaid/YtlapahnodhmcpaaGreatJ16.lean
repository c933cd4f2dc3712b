/-
  Part of the proof.
-/
import Derived.Test.YtlapahnodhmcpaaGreatJ0
import Derived.Test.YtlapahnodhmcpaaGreatJ15
import Derived.Test.YtlapahnodhmcpaaGreatJ14
import Derived.Laws.Pointers
import Derived.Test.YtlapahnodhmcpaaGreatJ10
import Derived.Test.YtlapahnodhmcpaaGreatJ9
import Derived.Test.YtlapahnodhmcpaaGreatJ13
set_option linter.unusedVariables false
set_option linter.unusedSectionVars false
set_option linter.unusedSimpArgs false
set_option maxRecDepth 100000
set_option maxHeartbeats 40000000
namespace Go.Am
open Go.RowKit Go.MapKept Go.ChangeMaps
def UQ (st:SV→Bool):dX→dX
 | .arr u=>if st (.own u) then .arr u else .no
 | .map u=>if st (.omap u) then .map u else .no
 | .no=>.no
theorem AB {st:SV→Bool}{ks:List Value}{key:Value}{l:dX}:sV st (wi ks key l)=wi ks key (UQ st l):=by
 unfold wi;cases dK ks key with
 | none=>rfl
 | some j=>cases l<;>rfl
section
variable {P:Program} {w0:Fr}{M0:Nat→Prop}{s:St}{id:Nat}{e:TypeId}{xs:List AV}
theorem ig (b j:Nat) {eb:TypeId} {bs:List SV} (aa:∀ b,M0 b→b<w0.w.heap.size) (hnd:Nodup s.s=true) (hb:s.o.lookup b=some (.box eb bs)) (hj:bs[j]?=some (.own id)) (hl:s.o.lookup id=some (.arr e xs)) :
   fF P w0 M0 s { n:=s.n,s:=s.s.filter (fun p=>p.2.stays true id),o:=ins b (.box eb ((bs.map fun d=>if d.stays true id then d else .dead).set j (.v .pl (.sl xs)))) (ie id (iH true id s.o)) }:=by
 rintro a w ⟨E,hs⟩;have hbi:b≠id:=fun q=>by rw[q,hl] at hb;cases hb
 obtain⟨vals,g1,g2,g3,g4⟩:=hs.wok.objs b _ hb;have hv:vals.getD j undef=E.cur id:=(g4 j _ hj).2.2 e xs hl;have hN:∀i q,(if i=id then some none else if i=b then some (some (Ob.box eb ((bs.map fun d=>if d.stays true id then d else .dead).set j (.v .pl (.sl xs))))) else none:Option (Option Ob))=some q→(i=id∧q=none)∨(i=b∧q=some (.box eb ((bs.map fun d=>if d.stays true id then d else .dead).set j (.v .pl (.sl xs))))):=fun i q hq=>by
   by_cases h1:i=id
   · rw[if_pos h1] at hq;injection hq with hq;exact .inl ⟨h1,hq.symm⟩
   · rw [if_neg h1] at hq
     by_cases h2:i=b
     · rw[if_pos h2] at hq;injection hq with hq;exact .inr ⟨h2,hq.symm⟩
     · rw[if_neg h2] at hq;cases hq
 refine⟨E,ba.xj (E':=E) (SV.stays true id) (fun i=>if i=id then some none else if i=b then some (some (.box eb ((bs.map fun d=>if d.stays true id then d else .dead).set j (.v .pl (.sl xs))))) else none) _ (fun i=>?_) (fun d=>rfl) (fun i ob hq hx=>?_) (fun i hq=>⟨rfl,rfl⟩) hs hnd aa (fun i hq=>⟨rfl,rfl,rfl⟩) (fun x hx=>rfl) none ⟨rfl,rfl,rfl,aak _,fun _ _ _=>rfl⟩ (fun _=>aak _) (fun g hg=>by cases hg) (fun i ob b' hq hb'=>.inl ?_) (fun i ob i' ob' b' hq hq' hb1 hb2=>?_) (fun rep sv lents i ob hq=>?_)⟩
 · rw [ax]
   by_cases h2:i=b
   · rw[if_pos h2,if_neg (fun q=>hbi (h2.symm.trans q)),if_pos h2]
   · rw [if_neg h2, c9]
     by_cases h1:i=id
     · rw[if_pos h1,if_pos h1]
     · rw[if_neg h1,if_neg h1,if_neg h2];exact cr true id i s.o
 · rcases hN i _ hq with ⟨_, q⟩ | ⟨rfl, q⟩
   · cases q
   · injection q with q; subst q
     exact⟨rfl,rfl,.inr (.inl ⟨eb,bs,_,hb,rfl⟩)⟩
 · rcases hN i _ hq with ⟨_, q⟩ | ⟨rfl, q⟩
   · cases q
   · injection q with q; subst q
     exact⟨i,_,by rw[if_neg hbi,if_pos J];simp,hb,hb'⟩
 · rcases hN i _ hq with ⟨_, q⟩ | ⟨rfl, _⟩
   · cases q
   · rcases hN i' _ hq' with ⟨_, q⟩ | ⟨rfl, _⟩
     · cases q
     · rfl
 · rcases hN i _ hq with ⟨_, q⟩ | ⟨rfl, q⟩
   · cases q
   · injection q with q; subst q
     refine⟨vals,g1,g2,by simpa using g3,fun k d hd=>?_⟩;by_cases hk:j=k
     · subst hk
       have hjl:j<bs.length:=(aaz.1 hj).1;rw[abI (by simpa using hjl)] at hd;simp only[aaj] at hd;subst hd;refine⟨rfl,(g4 j _ hj).2.1,?_⟩;rw[hv];refine(hs.wok.objs id _ hl).rep (fun b' hb'=>?_) fun g hg hm=>?_
       · rcases hb' with hb' | ⟨i2, ob, q1, q2⟩
         · exact .inl hb'
         · rw [ax] at q1
           by_cases h2:i2=i
           · rw [if_pos h2] at q1
             simp only[aaj] at q1;subst q1;subst h2;exact .inr ⟨_,_,hb,q2⟩
           · rw [if_neg h2, c9] at q1
             by_cases h1:i2=id
             · rw[if_pos h1] at q1;cases q1
             · rw [if_neg h1, cr, aao] at q1
               obtain⟨ob0,q3,rfl⟩:=q1;exact .inr ⟨i2,ob0,q3,iB.1 q2⟩
       · have hown : bE E id g (.arr e xs) := hg
         rcases hm with hm|⟨i2,ob,q1,q2⟩
         · exact((hs.wok.objs id _ hl).dx hown).1.2 hm
         · rw [ax] at q1
           by_cases h2:i2=i
           · rw [if_pos h2] at q1
             simp only[aaj] at q1;subst q1;subst h2;exact hbi (hs.wok.disj _ _ id _ g hb hl q2 hown)
           · rw [if_neg h2, c9] at q1
             by_cases h1:i2=id
             · rw[if_pos h1] at q1;cases q1
             · rw [if_neg h1, cr, aao] at q1
               obtain⟨ob0,q3,rfl⟩:=q1;exact h1 (hs.wok.disj i2 ob0 id _ g q3 hl (iB.1 q2) hown)
     · rw [abL hk] at hd
       rw[aap,aao] at hd;obtain⟨d0,hd0,rfl⟩:=hd;have:=g4 k d0 hd0;split
       · exact⟨this.1,this.2.1,sv _ _ this.2.2 ‹_›⟩
       · exact⟨rfl,this.2.1,trivial⟩
end
section
variable {P:Program} {w0:Fr}{M0:Nat→Prop}
variable {o:Oper} {ρ:Operand→Option SV}{ob:List (Nat×Ob)}{x y z:Operand}{T T' e:TypeId}{k b:Nat}{c:fW}{id off:Nat}{s:St}{t:Nat}{ks:List Value}{vs:List AV}{kt et:TypeId}{kd:TypeDesc}{cs:List SV}
theorem B4 {f:FuncId}{caps:List qI}(hy:s.ev y=some (.fn f caps)):∀(E:Env)(a:Act)(w:World),ba P w0 M0 E s a w→(a.eval y).oneCell'=true:=fun E a w hs=>by obtain⟨vs,h,_⟩:=hs.ev hy;rw[h];rfl
theorem eY {d1:SV}(ho:o.op=.store T x y)(hd:o.dst=none)(hnd:Nodup s.s=true)(hk:bY P T=some 1)(hx:s.ev x=some (.pbox id off))(hl:s.o.lookup id=some (.box e cs))(hy:s.ev y=some d1)(hlf:d1.leaf=true)(hst:d1.stays false id=true)
  (hone:∀(E:Env)(a:Act)(w:World),ba P w0 M0 E s a w→(a.eval y).oneCell'=true)(hle:Nat.ble (off+1) cs.length=true)(aa:∀b,M0 b→b<w0.w.heap.size):Step P w0 M0 o s (s.cC false id (.box e (rH (c5 id cs) off [d1]))):=by
 rintro a w Q ⟨E,hs⟩;have hle':=aah hle;have hxv:=hs.ev hx e cs hl;have hyv:=hs.ev hy;have h1c:=hone E a w hs;generalize hu:a.eval y=u at hyv h1c;have hcells:u.cells=#[u]:=by cases u<;>simp_all [Value.cells,Value.oneCell']
 obtain⟨vals,h1,h2,h3,h4⟩:=hs.wok.objs id _ hl;have hrun:=lG (P:=P) (w:=w) (v:=u) (p:=off) hk (by rw[hcells];rfl) h1 (by simp;omega) (by rw[hcells];simpa using h1c);unfold Oper.wp;have hexec:(execOp a.eval o).run P w=.ok .skip (w.setRow (E.blk id) (rH vals off [u]).toArray):=by
  rw[hcells] at hrun;simp[execOp,ho,hxv,hu,Instr.storeAt,Instr.sureAddr,hrun]
 rw[hexec];simp only[Oper.upon,hd,Act.put];have hspl:off+[u].length≤vals.length:=by simp;omega
 refine⟨E,hs.cC false (fun _=>⟨rfl,.inr (.inl ⟨e,cs,_,hl,rfl⟩)⟩) hnd aa (fun i hi=>⟨rfl,rfl⟩) (.inr J) (some (E.blk id)) jS (fun _=>aak _) (fun g hg=>⟨_,hl,by simpa[bE] using hg⟩) (fun b hb=>.inl ⟨_,hl,hb⟩) (fun rep sv=>?_)⟩;refine⟨_,setRow_heap w _ _ _ e _ h1,h2,?_,fun j' d hj'=>?_⟩
 ·rw[dz hspl,dz (by simp[c5];omega)];simp[c5,h3]
 ·rw[fA (by simp[c5];omega)] at hj';rw[aag,fA hspl];simp only[aaZ] at hj' ⊢;split at hj'
  ·rename_i hin;rw[if_pos hin];have hz:j'-off=0:=acK;rw[hz] at hj' ⊢;simp only[aaN,aaj] at hj';subst hj';simp only[aaN,ace];exact⟨hlf,h1c,sv _ _ hyv hst⟩
  ·rename_i hin;rw[if_neg hin];simp only[c5,aap,aao] at hj';obtain⟨d0,hd0,rfl⟩:=hj';have:=h4 j' d0 hd0;rw[aag] at this;split
   ·exact⟨this.1,this.2.1,sv _ _ this.2.2 ‹_›⟩
   ·exact⟨rfl,this.2.1,trivial⟩
end
section
variable {P:Program} {w0:Fr}{M0:Nat→Prop}{s:St}{o:Oper}{id t off:Nat}{e T T':TypeId}{ks:List Value}{vs:List AV}{x y:Operand}{ρ:Operand→Option SV}{ob:List (Nat×Ob)}{c:fW}{cs:List AV}
theorem Gr (ho:o.op=.nilCheck x)(hx:ρ x=some (.v c (.pc cs off))):Pure P w0 M0 o ρ ob (.v c (.pc cs off)) :=
 aD fun E w ev hw h=>by
  have hr:=h x _ hx;refine⟨ev x,w,?_,.refl _ _,hr⟩;simp only[bm] at hr;generalize hq:ev x=q at hr;cases hr with
  | pc b o' _ _ cv h1 h2 hc hl hr=>simp only[execOp,ho,hq,Sem.run_pure]
theorem Mx {w:World}{M:Nat→Prop}{v:Value}(h:bJ w M v (.pc cs off)):∃a,v=.pointer (some a):=by
 cases h with
 | pc b o' _ _ cv h1 h2 hc hl hr=>exact⟨_,rfl⟩
theorem kJ (ho:o.op=.binOp .eql T x y T')(hT:P.underlying T=some (.pointer (P.pointee T)))(hx:ρ x=some (.v c (.pc cs off)))(hy:aZ ρ y=some (.pointer none)):Pure P w0 M0 o ρ ob (.v .pl (bool false)) :=
 aD fun E w ev hw h=>by
  obtain⟨a,ha⟩:=Mx (h x _ hx);have hyv:ev y=.pointer none:=bK h hy;exact⟨.bool false,w,by simp[execOp,ho,ha,hyv,eqGuard,run_eql_pointer_nil w T (some a) hT],.refl _ _,.sc _ J⟩
theorem zM (ho:o.op=.binOp .neq T x y T')(hT:P.underlying T=some (.pointer (P.pointee T)))(hx:ρ x=some (.v c (.pc cs off)))(hy:aZ ρ y=some (.pointer none)):Pure P w0 M0 o ρ ob (.v .pl (bool true)) :=
 aD fun E w ev hw h=>by
  obtain⟨a,ha⟩:=Mx (h x _ hx);have hyv:ev y=.pointer none:=bK h hy;exact⟨.bool true,w,by simp[execOp,ho,ha,hyv,eqGuard,run_neq_pointer_nil w T (some a) hT],.refl _ _,.sc _ J⟩
theorem xM (ho:o.op=.binOp .eql T x y T')(hT:P.underlying T=some (.pointer (P.pointee T)))(hx:aZ ρ x=some (.pointer none))(hy:aZ ρ y=some (.pointer none)):Pure P w0 M0 o ρ ob (.v .pl (bool true)) :=
 aD fun E w ev hw h=>by
  have hxv:ev x=.pointer none:=bK h hx;have hyv:ev y=.pointer none:=bK h hy;exact⟨.bool true,w,by simp[execOp,ho,hxv,hyv,eqGuard,run_eql_pointer_nil w T none hT],.refl _ _,.sc _ J⟩
theorem xN (ho:o.op=.binOp .neq T x y T')(hT:P.underlying T=some (.pointer (P.pointee T)))(hx:aZ ρ x=some (.pointer none))(hy:aZ ρ y=some (.pointer none)):Pure P w0 M0 o ρ ob (.v .pl (bool false)) :=
 aD fun E w ev hw h=>by
  have hxv:ev x=.pointer none:=bK h hx;have hyv:ev y=.pointer none:=bK h hy;exact⟨.bool false,w,by simp[execOp,ho,hxv,hyv,eqGuard,run_neq_pointer_nil w T none hT],.refl _ _,.sc _ J⟩
def DX (v:Value)(vs:List Value):Prop:=v=.agg vs.toArray
theorem DY {i:Nat}{places:List (Nat×Nat)}{zs:List Value}(ho:o.op=.build T #[(i,x)])(hpl:placesOf P T=some places)(hz:zeroOf P T=some zs)(hzs:zs.all Value.oneCell'=true)(hx:ρ x=some (.omap id))(hl:ob.lookup id=some (.mp ks vs))(hp:places[i]?=some (off,1))(hoff:Nat.blt off zs.length=true) :
   Pure P w0 M0 o ρ ob (.hid DX ((zs.map fun z=>qI.pl (.sc z)).set off (.om id))) :=
 aD fun E w ev hw h=>by
   have hxv:ev x=.map (some (E.blk id)):=h x _ hx ks vs hl;have hlt:off<zs.length:=acj (aah hoff);have hrun:(Instr.build T (#[(i,x)].map fun(i,x)=>(i,ev x))).run P w=.ok (.agg (zs.set off (.map (some (E.blk id)))).toArray) w:=by
     apply run_build;unfold placesOf at hpl;unfold zeroOf at hz;unfold Program.built;split at hpl
     · rename_i fields hu
       cases hi:P.info? T with
       | none=>rw[hi] at hz;cases hz
       | some it =>
         rw[hi] at hz;simp only[abO,aao] at hz;obtain⟨z,hz1,hz2⟩:=hz;simp only[hu,hz1,hpl];have e0:z.cells=zs.toArray:=by rw[←hz2]
         rw[e0];simp only[List.map_toArray,aa6,abu,Instr.fill,List.getElem?_toArray,hp,hxv];rw[if_neg (by simp[Value.cells];omega)];simp[Value.cells,Array.zipIdx]
     · cases hpl
   refine⟨.agg (zs.set off (.map (some (E.blk id)))).toArray,w,by simp only[execOp,ho,Sem.run_bind,hrun,Result.andThen_ok,Sem.run_pure],.refl _ _,zs.set off (.map (some (E.blk id))),rfl,by simp,fun j c hc=>?_⟩;by_cases hj:off=j
   · subst hj
     rw[abI (by simpa using hlt)] at hc;simp only[aaj] at hc;subst hc;intro ks' vs' _;rw[aag,abI hlt];rfl
   · rw [abL hj, aap, aao] at hc
     obtain⟨z,hz1,rfl⟩:=hc;rw[aag,abL hj,hz1];exact .sc z (by rw[aaF] at hzs;exact hzs z (aaW hz1))
def My (ob:List (Nat×Ob))(t:Nat):qI→Bool
 | .pl d=>d.leaf
 | .om id=>(match ob.lookup id with|some (.mp _ _)=>true|_=>false)&&!(Nat.beq id t)
 | _=>false
theorem JO {caps:List qI}(ho:o.op=.box T x)(hd:o.dst=some t)(hn:Nat.blt t s.n=true)(hpt:Nat.blt t 1000000=true)(hnd:Nodup s.s=true)(hx:s.ev x=some (.hid DX caps))(hc:caps.all (My s.o t)=true)(aa:∀b,M0 b→b<w0.w.heap.size) :
   Step P w0 M0 o s ((s.cC true t (.box T (caps.map qI.sv))).put t (.pbox t 0)):=by
 rintro a w Q ⟨E,hs⟩;obtain⟨us,hv,h2,h3⟩:=hs.ev hx;have hv:a.eval x=.agg us.toArray:=hv;unfold Oper.wp;have hexec:(execOp a.eval o).run P w=.ok (.value (.pointer (some ⟨w.heap.size,0,none⟩))) (w.alloc (.cells us.toArray T)):=by
   simp[execOp,ho,hv,Instr.box,newVar,newRow,Value.cells]
 rw[hexec];simp only[Oper.upon,hd];refine⟨{ E with blk:=fun i=>if i=t then w.heap.size else E.blk i },ba.put ?_ (by simpa[St.cC] using hn) r8⟩;refine hs.F6 hnd aa (aaT (acj (aah hpt)) (aak _)) (by simpa using h2) (fun j sv hj=>?_);rw[aap,aao] at hj;obtain⟨cp,hcp,rfl⟩:=hj;have h4:=h3 j cp hcp;have h5:=aaF.1 hc cp (aaW hcp);have eg:(us.toArray).getD j undef=us.getD j undef:=by simp[aaL,aag]
 rw[eg];cases cp with
 | pl d=>exact⟨h5,bJ.one h4 h5,h4,rfl⟩
 | om id =>
   unfold My at h5;rw[aax] at h5;cases hl:s.o.lookup id with
   | none=>rw[hl] at h5;cases h5.1
   | some ob =>
     rw[hl] at h5;cases ob with
     | mp ks vs =>
       have h6:=h4 ks vs hl;refine⟨rfl,by rw[h6];rfl,h4,?_⟩;show(!(true&&Nat.beq id t))=true;rw[abm];exact h5.2
     | _=>cases h5.1
 | bx id=>cases h5
 | ow id=>cases h5
end
def xO {α:Type}(f:α→Prop):List α→Prop
 | []=>True
 | i :: r=>f i∧xO f r
theorem xO.get {α:Type}{f:α→Prop}:∀{l:List α}{i:α},xO f l→i∈l→f i
 | j :: r, i, h, hi => by
   rcases aaC.1 hi with rfl|hi
   · exact h.1
   · exact xO.get h.2 hi
theorem ai {a b:Prop}(x:a)(y:b):a∧b:=⟨x,y⟩
section
variable (P:Program) (w0:Fr)(M0:Nat→Prop)(ops:Array Oper)(n:Nat)(G:List (Nat×SV))(E:Nat→Nat)(m:Nat)(O:Nat→List (Nat×Ob))
def S3 (p i:Nat):Bool:=(List.range p).all (fun q=>!(kV ops ops.size (E q)).contains i)&&!(Nat.blt p m&&(kV ops ops.size i).contains (E p))
def Xv (i p:Nat):Prop:=match ops[i]? with
 | none=>True
 | some o => match o.dst with
   | none=>True
   | some t => match G.lookup t with
     | none=>True
     | some d=>Pure P w0 M0 o (fq ops o (St.ev ⟨n,G,O p⟩)) (O p) d
def XU (p:Nat):Prop:=match ops[E p]? with
 | none=>True
 | some o=>∀X,Nodup X=true→(∀t d,X.lookup t=some d→G.lookup t=some d)→(∀t,t∈looks ops o→X.lookup t=G.lookup t)→∃s',Step P w0 M0 o ⟨n,X,O p⟩ s'∧fF P w0 M0 s' ⟨n,sf G X o,O (p+1)⟩
def Mz (k:Nat):Bool:=(List.range k).all fun i=>match(ops[i]?).bind (·.dst) with
 | none=>true
 | some t=>(G.lookup t).isSome
def ZY (k:Nat)(L:List (Nat×Option (List Nat))):Bool:=(List.range k).all fun i=>zL E m i||L.any fun q=>Nat.beq q.1 i&&match q.2 with
 | none=>true
 | some ps=>(List.range (m+1)).all fun p=>!S3 ops E m p i||ps.contains p
def ZZ (q:Nat×Option (List Nat)):Prop:=match q.2 with
 | none=>∀p,Xv P w0 M0 ops n G O q.1 p
 | some ps=>xO (Xv P w0 M0 ops n G O q.1) ps
end
section
variable {P:Program} {w0:Fr}{M0:Nat→Prop}{ops:Array Oper}
theorem Gs {id:Nat}{n:Nat}{s0:List (Nat×SV)}(m:Nat)(E:Nat→Nat)(O:Nat→List (Nat×Ob))(k:Nat)(L:List (Nat×Option (List Nat)))(G:List (Nat×SV)){Q':Exit→St→Prop}(hm:P.follows .mixedOrders=true)(hok:l7 ops=true)(htl:fz ops k=true)(hmid:uv ops n k (zL E m)=true)(hc:wD ops E m k=true)(hL:ZY ops E m k L=true)(hset:Mz ops G k=true)
   (hG:∀t d,(G.filter fun p=>ez ops k #[] p.1).lookup t=some d→s0.lookup t=some d)(hnd:Nodup G=true)
   (hP:xO (ZZ P w0 M0 ops n G O) L)
   (hE:xO (XU P w0 M0 ops n G E O) (List.range m))
   (hend:rZ P w0 M0 ops (fun s=>∃s',fF P w0 M0 s s'∧Q' .normal s') k ⟨n,G,O m⟩):ao P w0 M0 (.region id ops true) ⟨n,s0,O 0⟩ Q':=by
 refine Gl m E O k G hm hok htl hmid hc hG hnd (fun i t hi ht=>?_) (fun p i o t d hp hi he ho hd XS h1 h2=>?_) (fun p o X hp ho hX dH c6=>?_) hend
 · have := aaF.1 hset i (aaI.2 hi)
   simp only[ht] at this;exact Option.isSome_iff_exists.1 this
 · have hph : S3 ops E m p i = true := by
     unfold S3;rw[aax,aaF];refine⟨fun q hq=>by rw[h1 q (aaI.1 hq)];rfl,?_⟩;by_cases hpm:p<m
     · rw[h2 hpm,abG];rfl
     · have hb : Nat.blt p m = false := by
         cases hq:Nat.blt p m
         · rfl
         · exact absurd (by simpa using hq) hpm
       rw[hb,abD];rfl
   have hl:=aaF.1 hL i (aaI.2 hi);rw[he,acA,aaQ] at hl;obtain⟨⟨j,x⟩,hq,hl⟩:=hl;rw[aax] at hl;have hj:j=i:=aa7 hl.1;subst hj;have h:=hP.get hq;have hp2:Xv P w0 M0 ops n G O j p:=by
     cases x with
     | none=>exact h p
     | some ps =>
       have h3:=aaF.1 hl.2 p (aaI.2 acK);rw[hph] at h3;exact xO.get (show xO _ ps from h) (aa4.1 (by simpa using h3))
   unfold Xv at hp2;simp only[ho,hd,XS] at hp2;exact hp2
 · have h := hE.get (aaI.2 hp)
   unfold XU at h;simp only[ho] at h;exact h X hX dH c6
end
abbrev HM (w0:Fr)(M0:Nat→Prop):Prop:=∀b,M0 b→b<w0.w.heap.size
def PG (P:Program)(w0:Fr)(M0:Nat→Prop)(T:List (Nat×Da))(o:Oper)(ρ:Operand→Option SV)(ob:List (Nat×Ob))(d:SV):Prop:=eX P T→HM w0 M0→Pure P w0 M0 o ρ ob d
def SG (P:Program)(w0:Fr)(M0:Nat→Prop)(T:List (Nat×Da))(o:Oper)(s s':St):Prop:=eX P T→HM w0 M0→Step P w0 M0 o s s'
variable{q:IntKind}{parts:Array (Nat×Operand)}{a0:AV}
section
variable {P:Program} {w0:Fr}{M0:Nat→Prop}{T:List (Nat×Da)}{o:Oper}{ρ:Operand→Option SV}{ob:List (Nat×Ob)}{d:SV}{x y:Operand}{t t' e k:Nat}{c:fW}{id off:Nat}{xs ys:List AV}{a b:Int}{α:Type}{f:α→AV}{l:List α}
theorem a_x (h:DM T o ρ ob=some d):PG P w0 M0 T o ρ ob d:=fun hT _=>xw hT h
theorem RI (ho:o.op=.call { callee:=.builtin .len,args:=#[x],argTypes:=#[t] })(hT:(dB T t).se=some e)(hx:viewAt ρ ob x=some (c,.sl (l.map f))):PG P w0 M0 T o ρ ob (.v .pl (int l.length)):=fun h _=>nD ho (ky h hT) hx
theorem RJ (ho:o.op=.binOp .add t x y t')(hx:aZ ρ x=some (.int .i64 a))(hy:aZ ρ y=some (.int .i64 b))(h:-9223372036854775808≤a+b∧a+b≤9223372036854775807):PG P w0 M0 T o ρ ob (.v .pl (int (a+b))):=fun _ _=>dP ho hx hy h
theorem RK (ho:o.op=.binOp .sub t x y t')(hx:aZ ρ x=some (.int .i64 a))(hy:aZ ρ y=some (.int .i64 b))(h:-9223372036854775808≤a-b∧a-b≤9223372036854775807):PG P w0 M0 T o ρ ob (.v .pl (int (a-b))):=fun _ _=>qJ ho hx hy h
theorem RL (ho:o.op=.binOp .mul t x y t')(hx:aZ ρ x=some (.int .i64 a))(hy:aZ ρ y=some (.int .i64 b))(h:-9223372036854775808≤a*b∧a*b≤9223372036854775807):PG P w0 M0 T o ρ ob (.v .pl (int (a*b))):=fun _ _=>Jm ho hx hy h
theorem RM (ho:o.op=.binOp .rem t x y t')(hx:aZ ρ x=some (.int q a))(hy:aZ ρ y=some (.int q b))(h:0≤a∧0<b):PG P w0 M0 T o ρ ob (.v .pl (.sc (.int q (a % b)))):=fun _ _=>Js ho hx hy h
theorem RN (ho:o.op=.binOp .quo t x y t')(hx:aZ ρ x=some (.int .i64 a))(hy:aZ ρ y=some (.int .i64 b))(h:0≤a∧0<b∧a≤9223372036854775807):PG P w0 M0 T o ρ ob (.v .pl (int (a / b))):=fun _ _=>Jt ho hx hy h
theorem UR [Inhabited α]{n:Int}{i:Nat}(ho:o.op=.indexAddr t x y)(hT:(dB T t).se=some e)(hk:(dB T e).sz=some k)(hx:viewAt ρ ob x=some (c,.sl (l.map f)))(hy:aZ ρ y=some (.int q n)) [hi:Ix n i](hc:∀z,(AV.cells (f z)).length=k)(h:0≤n∧n<l.length) :
 PG P w0 M0 T o ρ ob (.v c (.pc (AV.cells (f (l.getD i default))) 0)):=fun hh _=>dS ho (ky hh hT) (lk hh hk) hx hy h hc
theorem RO {n b:Nat}{ds:List AV}(ho:o.op=.buildSlice t n parts)(hT:(dB T t).se=some e)(hk:(dB T e).sz=some k)(hb:(dB T e).bt=some b)(hp:mO ρ ob k 0 parts.toList=some (c,ds))(hn:ds.length=n)(hn0:Nat.blt 0 n=true)(hsm:Nat.ble (n*k) 16777216=true) :
 PG P w0 M0 T o ρ ob (.v c (.sl ds)):=fun h hM=>eu ho (ky h hT) (xu h hk hb) hp hn hn0 hsm hM
theorem US (ho:o.op=.box t x)(hx:viewAt ρ ob x=some (c,a0))(hnt:jm a0=true):PG P w0 M0 T o ρ ob (.v c (.pc a0.cells 0)):=fun _ hM=>LG ho hx hnt hM
theorem S4 {g:FuncId}{caps:Array Operand}{ds:List AV}(ho:o.op=.makeFunc (.func g) #[] caps)(hc:iV ρ ob caps.toList=some (c,ds)):PG P w0 M0 T o ρ ob (.v c (.clo g ds)):=fun _ _=>Jq ho hc
theorem XV {g:FuncId}{caps:Array Operand}{cs:List qI}(ho:o.op=.makeFunc (.func g) #[] caps)(hc:Ap ρ caps.toList=some cs):PG P w0 M0 T o ρ ob (.fn g cs):=fun _ _=>PK ho hc
theorem RP {i:Int}(ho:o.op=.slice t x (some y) none none)(hT:(dB T t).se=some e)(hk:(dB T e).sz=some k)(hx:viewAt ρ ob x=some (c,.sl (l.map f)))(hy:aZ ρ y=some (.int q i))(hxk:∀z,(AV.cells (f z)).length=k)(h:0≤i∧i≤l.length) :
 PG P w0 M0 T o ρ ob (.v c (.sl ((l.drop i.toNat).map f))):=fun hh _=>nr ho (ky hh hT) (lk hh hk) hx hy h hxk
theorem RQ {i:Int}(ho:o.op=.slice t x none (some y) none)(hT:(dB T t).se=some e)(hk:(dB T e).sz=some k)(hx:viewAt ρ ob x=some (c,.sl (l.map f)))(hy:aZ ρ y=some (.int q i))(hxk:∀z,(AV.cells (f z)).length=k)(h:0≤i∧i≤l.length) :
 PG P w0 M0 T o ρ ob (.v c (.sl ((l.take i.toNat).map f))):=fun hh _=>fi ho (ky hh hT) (lk hh hk) hx hy h hxk
theorem RR {i:Int}(ho:o.op=.indexAddr t x y)(hT:(dB T t).se=some e)(hk:(dB T e).sz=some k)(hx:ρ x=some (.own id))(hl:ob.lookup id=some (.arr e xs))(hy:aZ ρ y=some (.int q i))(h:0≤i∧i<xs.length):PG P w0 M0 T o ρ ob (.pel id i.toNat 0):=fun hh _=>aE ho (ky hh hT) (lk hh hk) hx hl hy h
theorem RS {i n:Nat}{j:Int}(ho:o.op=.indexAddr t x y)(hT:(dB T t).se=some e)(hk:(dB T e).sz=some k)(hx:ρ x=some (.vsl id i n))(hl:ob.lookup id=some (.arr e xs))(hy:aZ ρ y=some (.int q j))(h:0≤j∧j<n):PG P w0 M0 T o ρ ob (.pel id (i+j.toNat) 0):=fun hh _=>xp ho (ky hh hT) (lk hh hk) hx hl hy h
theorem RT {i n:Nat}(ho:o.op=.call { callee:=.builtin .len,args:=#[x],argTypes:=#[t] })(hT:(dB T t).se=some e)(hx:ρ x=some (.vsl id i n))(hl:ob.lookup id=some (.arr e xs)):PG P w0 M0 T o ρ ob (.v .pl (int n)):=fun h _=>BQ ho (ky h hT) hx hl
theorem RU {cs:List Cell}{ln:Option (Nat×dX)}(ho:o.op=.call { callee:=.builtin .len,args:=#[x],argTypes:=#[t] })(hT:(dB T t).se=some e)(hk:(dB T e).sz=some 1)(hx:ρ x=some (.nst id))(hl:ob.lookup id=some (.nar e cs ln)):PG P w0 M0 T o ρ ob (.v .pl (.sc (.int .i64 cs.length))):=fun h _=>B1 ho (ky h hT) (lk h hk) hx hl
theorem RW {cs:List AV}(ho:o.op=.nilCheck x)(hx:ρ x=some (.v c (.pc cs off))):PG P w0 M0 T o ρ ob (.v c (.pc cs off)):=fun _ _=>Gr ho hx
theorem RX [Inhabited α]{i:Nat}(ho:o.op=.load t x)(hT:(dB T t).ag=some false)(hx:ρ x=some (.pel id i off))(hl:ob.lookup id=some (.arr e (l.map f)))(h:i<l.length)(hc:(f (l.getD i default)).cells[off]?=some a0):PG P w0 M0 T o ρ ob (.v .pl a0):=fun hh _=>fh ho (uo hh hT) hx hl (iC h) hc
theorem RY [Inhabited α]{i:Nat}(ho:o.op=.load t x)(hT:(dB T t).ag=some true)(hk:(dB T t).sz=some k)(hx:ρ x=some (.pel id i 0))(hl:ob.lookup id=some (.arr e (l.map f)))(hck:(dB T e).sz=some k)(h:i<l.length):PG P w0 M0 T o ρ ob (.v .pl (.agg (f (l.getD i default)).cells)):=fun hh _=>sX ho (uo hh hT) (lk hh hk) hx hl (lk hh hck) (iC h)
theorem MA {l l':List UInt8}(ho:o.op=.binOp .eql t x y t')(hx:aZ ρ x=some (.string ⟨l.toArray⟩))(hy:aZ ρ y=some (.string ⟨l'.toArray⟩)):PG P w0 M0 T o ρ ob (.v .pl (.sc (.bool (decide (l=l'))))):=fun _ _=>Jo ho hx hy
theorem MB {l l':List UInt8}(ho:o.op=.binOp .neq t x y t')(hx:aZ ρ x=some (.string ⟨l.toArray⟩))(hy:aZ ρ y=some (.string ⟨l'.toArray⟩)):PG P w0 M0 T o ρ ob (.v .pl (.sc (.bool (!decide (l=l'))))):=fun _ _=>ui ho hx hy
variable {s s':St}
theorem UT (ho:o.op=.assign x)(hd:o.dst=some t)(hn:Nat.blt t s.n=true)(hnd:Nodup s.s=true)(hx:aZ s.ev x=some (.slice none 0 0))(he:(dB T o.type).se=some e):SG P w0 M0 T o s ((s.cC true t (.arr e [])).put t (.own t)):=fun _ hM=>LC ho hd hn hnd hx e hM
theorem UU {bb:Nat}(ho:o.op=.call { callee:=.builtin .append,args:=#[x,y],argTypes:=#[t',t'] })(hd:o.dst=some t)(hn:Nat.blt t s.n=true)(hnd:Nodup s.s=true)(hT:(dB T t').se=some e)(hk:(dB T e).sz=some k)(hb:(dB T e).bt=some bb)
  (hx:s.ev x=some (.own id))(hl:s.o.lookup id=some (.arr e xs)){z:AV}(hy:viewAt s.ev s.o y=some (.pl,.sl [z]))(hz:z.cells.length=k)(h1:(xs.length+[z].length)*bb≤140737488355328)(h2:xs.length+[z].length≤4611686018427387904):SG P w0 M0 T o s ((s.cC true id (.arr e (xs++[z]))).put t (.own id)) :=
 fun h hM=>step_append ho hd hn hnd (ky h hT) (xu h hk hb) hx hl hM (cI hy (bW hz)) h1 h2
theorem UW {bb:Nat}(ho:o.op=.call { callee:=.builtin .append,args:=#[x,y],argTypes:=#[t',t'] })(hd:o.dst=some t)(hn:Nat.blt t s.n=true)(hnd:Nodup s.s=true)(hT:(dB T t').se=some e)(hk:(dB T e).sz=some 1)(hb:(dB T e).bt=some bb)
  (hx:s.ev x=some (.own id))(hl:s.o.lookup id=some (.arr e xs))(hy:viewAt s.ev s.o y=some (c,.sl (l.map f)))(hz:∀z,∃v,f z=.sc v)(h1:(xs.length+(l.map f).length)*bb≤140737488355328)(h2:xs.length+(l.map f).length≤4611686018427387904):SG P w0 M0 T o s ((s.cC true id (.arr e (xs++l.map f))).put t (.own id)) :=
 fun h hM=>step_append ho hd hn hnd (ky h hT) (xu h hk hb) hx hl hM (s4 hy hz) h1 h2
theorem UX {n b:Nat}{ds:List AV}(ho:o.op=.buildSlice t' n parts)(hd:o.dst=some t)(hn:Nat.blt t s.n=true)(hnd:Nodup s.s=true)(hT:(dB T t').se=some e)(hk:(dB T e).sz=some k)(hb:(dB T e).bt=some b)
 (hp:mO s.ev s.o k 0 parts.toList=some (.pl,ds))(hnn:ds.length=n)(hn0:Nat.blt 0 n=true)(hsm:Nat.ble (n*k) 16777216=true):SG P w0 M0 T o s ((s.cC true t (.arr e ds)).put t (.own t)):=fun h hM=>LD ho hd hn hnd (ky h hT) (xu h hk hb) hp hnn hn0 hsm hM
theorem S5 {b:Nat}(ho:o.op=.buildSlice t' 0 parts)(hp:parts.toList=[])(hd:o.dst=some t)(hn:Nat.blt t s.n=true)(hnd:Nodup s.s=true)(hT:(dB T t').se=some e)(hk:(dB T e).sz=some k)(hb:(dB T e).bt=some b):SG P w0 M0 T o s ((s.cC true t (.arr e [])).put t (.own t)) :=
 fun h hM=>Jn ho hp hd hn hnd (ky h hT) (xu h hk hb) hM
theorem UY (ho:o.op=.box t' x)(hd:o.dst=some t)(hn:Nat.blt t s.n=true)(hpt:Nat.blt t 1000000=true)(hnd:Nodup s.s=true)(hx:s.ev x=some (.v c a0))(hnt:jm a0=true)(hc:c≠.vw):SG P w0 M0 T o s ((s.cC true t (.box t' (c3 (.v c a0)))).put t (.pbox t 0)):=fun _ hM=>LF ho hd hn hpt hnd hx hnt hc hM
end
variable{p:Prop}
theorem gw (h:p:=by first|exact g_c rfl rfl (by first|(simp only[dq];exact rfl)|exact rfl|fail) (by first|(simp only[dq];exact rfl)|exact rfl|fail)|exact g_o rfl rfl rfl (by first|(simp only[dq];exact rfl)|exact rfl|fail) (by first|(simp only[dq];exact rfl)|exact rfl|fail)|exact g_r rfl rfl rfl (by first|(simp only[dq];exact rfl)|exact rfl|fail) (by first|(simp only[dq];exact rfl)|exact rfl|fail)|exact XW rfl rfl|exact g_nn rfl rfl|exact XX rfl|exact XY rfl|exact g_0|exact g_1 rfl|exact g_e rfl rfl|exact g_q rfl rfl rfl rfl|exact g_d rfl|exact g_p rfl rfl|fail):p:=h
theorem ruP (h:p:=by first|exact RR rfl rfl rfl rfl rfl rfl (by first|(simp only[ll];omega)|omega)|exact RS rfl rfl rfl rfl rfl rfl (by first|(simp only[ll];omega)|omega)|exact UR rfl rfl rfl rfl rfl (fun _=>rfl) acK|exact RI rfl rfl rfl|exact RJ rfl rfl rfl acK|exact RO rfl rfl rfl rfl rfl rfl rfl rfl|exact US rfl rfl rfl|exact a_bld rfl rfl rfl rfl rfl rfl|exact S4 rfl rfl|exact XV rfl rfl|exact RK rfl rfl rfl acK|exact RL rfl rfl rfl acK|exact RM rfl rfl rfl acK|exact RN rfl rfl rfl acK|exact RX rfl rfl rfl rfl (by first|(simp only[ll];omega)|omega) rfl|exact RY rfl rfl rfl rfl rfl rfl (by first|(simp only[ll];omega)|omega)|exact RT rfl rfl rfl rfl|exact RU rfl rfl rfl rfl rfl|exact RP rfl rfl rfl rfl rfl (fun _=>rfl) (by first|(simp only[ll];omega)|omega)|exact RQ rfl rfl rfl rfl rfl (fun _=>rfl) acK|exact RW rfl rfl|exact MA rfl rfl rfl|exact MB rfl rfl rfl|fail):p:=h
theorem Z0 (h:p:=by first|exact RR rfl rfl rfl rfl rfl rfl (by first|(simp only[ll];omega)|omega)|exact RS rfl rfl rfl rfl rfl rfl (by first|(simp only[ll];omega)|omega)|exact UR rfl rfl rfl rfl rfl (fun _=>rfl) acK|exact RI rfl rfl rfl|exact RJ rfl rfl rfl acK|exact RO rfl rfl rfl rfl rfl rfl rfl rfl|exact RK rfl rfl rfl acK|exact RL rfl rfl rfl acK|exact RM rfl rfl rfl acK|exact RN rfl rfl rfl acK|exact RX rfl rfl rfl rfl (by first|(simp only[ll];omega)|omega) rfl|exact RY rfl rfl rfl rfl rfl rfl (by first|(simp only[ll];omega)|omega)|exact RT rfl rfl rfl rfl|exact RU rfl rfl rfl rfl rfl|exact RP rfl rfl rfl rfl rfl (fun _=>rfl) (by first|(simp only[ll];omega)|omega)|exact RQ rfl rfl rfl rfl rfl (fun _=>rfl) acK|exact RW rfl rfl|exact MA rfl rfl rfl|exact MB rfl rfl rfl|fail):p:=h
theorem Z1 (h:p:=by first|exact UT rfl rfl rfl rfl rfl rfl|exact UU rfl rfl rfl rfl rfl rfl rfl rfl rfl rfl rfl (by first|(simp only[ll];omega)|omega) (by first|(simp only[ll];omega)|omega)|exact UW rfl rfl rfl rfl rfl rfl rfl rfl rfl rfl (fun _=>⟨_,rfl⟩) (by first|(simp only[ll];omega)|omega) (by first|(simp only[ll];omega)|omega)|exact UX rfl rfl rfl rfl rfl rfl rfl rfl rfl rfl rfl|exact S5 rfl rfl rfl rfl rfl rfl rfl rfl|exact UY rfl rfl rfl rfl rfl rfl rfl acM|fail):p:=h
theorem Z2 (h:p:=by first|exact a_x rfl|exact Z0|fail):p:=h
theorem nH (h:p:=by first|exact UZ tb aa Z2|fail):p:=h
theorem bS {f:Nat→Prop}(h:∀p,f p:=by intro p;first|exact nH|fail):∀p,f p:=h
variable{pt pf:Prop}
section
variable {P:Program} {w0:Fr}{M0:Nat→Prop}{T:List (Nat×Da)}{o:Oper}{d:SV}{Q:Exit→St→Prop}
variable {ops:Array Oper}{r:List Oper}{i t:Nat}{m:Nat}{l l':List (Nat×SV)}{ob:List (Nat×Ob)}{s':St}
theorem S6 {Q:St→Prop}{s s':St}(hs:Sub s' s)(h:kj P w0 M0 ops Q r i s'):kj P w0 M0 ops Q r i s:=by
 cases r with
 | nil=>obtain⟨s1,h1,h2⟩:=h;exact⟨s1,h1.trans hs,h2⟩
 | cons o r=>obtain⟨s1,h1,h2⟩:=h;exact⟨s1,h1.trans hs,h2⟩
theorem spD {Q:St→Prop}{c:fW}{b:Bool}(hb:l.lookup t=some (.v c (.sc (.bool b))))(h1:b=true→kj P w0 M0 ops Q r i ⟨m,ins t (.v c (.sc (.bool true))) l,ob⟩)(h0:b=false→kj P w0 M0 ops Q r i ⟨m,ins t (.v c (.sc (.bool false))) l,ob⟩):kj P w0 M0 ops Q r i ⟨m,l,ob⟩:=by
 have key:∀z,b=z→kj P w0 M0 ops Q r i ⟨m,ins t (.v c (.sc (.bool z))) l,ob⟩→kj P w0 M0 ops Q r i ⟨m,l,ob⟩:=fun z hz h=>S6 (s':=⟨m,ins t (.v c (.sc (.bool z))) l,ob⟩) ⟨rfl,rfl,fun u d hu=>by
  simp only at hu ⊢;rw[ax] at hu;split at hu
  ·rename_i q;subst q;cases hu;rw[hb,hz]
  ·exact hu⟩ h
 cases b
 ·exact key _ rfl (h0 rfl)
 ·exact key _ rfl (h1 rfl)
theorem oD {k:List Fm}{Q:Exit→St→Prop}{a:Array Oper}{d:SV}(hg:guardOf a (St.ev ⟨m,l,ob⟩) o=some true)(ht:o.dst=some t)(hn:Nat.blt t m=true)(hp:Pure P w0 M0 o (fq a o (St.ev ⟨m,l,ob⟩)) ob d)(hr:At P w0 M0 Q k (.drw a r (i+1)) ⟨m,ins t d l,ob⟩):At P w0 M0 Q k (.drw a (o :: r) i) ⟨m,l,ob⟩ :=
 have hn':t<m:=by simpa using hn
 ⟨_,Sub.refl _,.inl ⟨t,ht,hn',true,hg,d,fun _=>hp,fun h=>(by cases h),hr⟩⟩
def Go (P:Program)(w0:Fr)(M0:Nat→Prop)(Q:Exit→St→Prop)(T:List (Nat×Da))(ns ids oids:List Nat)(k:List Fm)(cf:Cf)(s:St)(z:Prop):Prop:=eX P T→HM w0 M0→z→At P w0 M0 Q k cf s
variable {k k':List Fm}{cf cf':Cf}{s:St}{n n1:Nat}{ns ids oids:List Nat}{z:Prop}{a:Array Oper}{o':List (Nat×Ob)}
theorem g_1 (h:RG T n ids oids cf k s=some (cf',k',⟨m,l,ob⟩)):Go P w0 M0 Q T [n] ids oids k cf s (At P w0 M0 Q k' cf' ⟨m,l,ob⟩):=fun hT hM hz=>uq hT hM n ids oids h hz
theorem g_0:Go P w0 M0 Q T [5000] ids oids k cf s (At P w0 M0 Q k cf s):=fun _ _ hz=>hz
theorem g_c {x y:Code}{b:Bool}(h:RG T n ids oids cf k s=some (.code (.cond (.tmp t) x y),k',⟨m,l,ob⟩))(hb:aZ (St.ev ⟨m,l,ob⟩) (.tmp t)=some (.bool b))(ht:(b=true)=pt)(hf:(b=false)=pf) :
  Go P w0 M0 Q T [n+3000] ids oids k cf s ((pt→At P w0 M0 Q k' (.code (.cond (.tmp t) x y)) ⟨m,ins t (.v .pl (.sc (.bool true))) l,ob⟩)∧(pf→At P w0 M0 Q k' (.code (.cond (.tmp t) x y)) ⟨m,ins t (.v .pl (.sc (.bool false))) l,ob⟩)):=fun hT hM hz =>
 uq hT hM n ids oids h (ZV t hb (fun h=>hz.1 (ht ▸ h)) (fun h=>hz.2 (hf ▸ h)))
def RZ (a:Array Oper)(o:Oper):Option Nat:=match o.guard with
 | some (j,_)=>(a[j]?).bind (·.dst)
 | none=>none
theorem g_o {b:Bool}(h:RG T n ids oids cf k s=some (.ops a (o :: r),k',⟨m,l,ob⟩))(hs:RZ a o=some t)(hb:aZ (St.ev ⟨m,l,ob⟩) (.tmp t)=some (.bool b))(ht:(b=true)=pt)(hf:(b=false)=pf) :
  Go P w0 M0 Q T [n+4000] ids oids k cf s ((pt→At P w0 M0 Q k' (.ops a (o :: r)) ⟨m,ins t (.v .pl (.sc (.bool true))) l,ob⟩)∧(pf→At P w0 M0 Q k' (.ops a (o :: r)) ⟨m,ins t (.v .pl (.sc (.bool false))) l,ob⟩)):=fun hT hM hz =>
 uq hT hM n ids oids h (spO t hb (fun h=>hz.1 (ht ▸ h)) (fun h=>hz.2 (hf ▸ h)))
theorem g_r {b:Bool}{c:fW}(h:RG T n ids oids cf k s=some (.drw a (o :: r) i,k',⟨m,l,ob⟩))(hs:RZ a o=some t)(hb:l.lookup t=some (.v c (.sc (.bool b))))(ht:(b=true)=pt)(hf:(b=false)=pf) :
  Go P w0 M0 Q T [n+7000] ids oids k cf s ((pt→At P w0 M0 Q k' (.drw a (o :: r) i) ⟨m,ins t (.v c (.sc (.bool true))) l,ob⟩)∧(pf→At P w0 M0 Q k' (.drw a (o :: r) i) ⟨m,ins t (.v c (.sc (.bool false))) l,ob⟩)):=fun hT hM hz =>
 uq hT hM n ids oids h (spD hb (fun h=>hz.1 (ht ▸ h)) (fun h=>hz.2 (hf ▸ h)))
theorem XW {rr r':RV}(h:xr T n cf k s=some (.done .ret,[],s'))(hr:(s'.s.lookup t).bind (bR s'.o)=some r'):Go P w0 M0 (zC t rr) T [n+8000] ids oids k cf s (r'=rr):=fun hT hM hz=>rK (Q:=zC t rr) hT hM n cf k s _ h (PB hr hz)
theorem XX {I:Nat→St→Prop}{mm:Nat}(h:RG T n ids oids cf k s=some (.done .normal,.loop I mm :: k',⟨m,l,ob⟩)):Go P w0 M0 Q T [n+9000] ids oids k cf s (∃m',I m' ⟨m,l,ob⟩∧m'<mm):=fun hT hM hz=>uq hT hM n ids oids h (nx hz)
theorem XY {R:St→Prop}(h:RG T n ids oids cf k s=some (.done .normal,.cut R :: k',⟨m,l,ob⟩)):Go P w0 M0 Q T [n+10000] ids oids k cf s (R ⟨m,l,ob⟩):=fun hT hM hz=>uq hT hM n ids oids h (cx hz)
theorem g_e {s':St}(h:xr T n cf k s=some (.ops a (o :: r),k',⟨m,l,ob⟩))(hg:guardOf a (St.ev ⟨m,l,ob⟩) o=some true)(hp:SG P w0 M0 T o ⟨m,l,ob⟩ s':=by first|exact Z1|fail)
  (hn:s'.n=m:=by rfl)(hl:fS s'.s (fun l=>some l)=some l':=by rfl)(ho:fO s'.o (fun l=>some l)=some o':=by rfl)(hr:Go P w0 M0 Q T (n1 :: ns) ids oids k' (.ops a r) ⟨m,l',o'⟩ z:=by first|exact gw|fail):Go P w0 M0 Q T ((n+1000) :: n1 :: ns) ids oids k cf s z:=fun hT hM hz=>by
 rw[L3] at hl;rw[xv] at ho;cases hl;cases ho;obtain⟨mm,sl,oo⟩:=s';simp only at hn;subst hn;exact rK hT hM n cf k s _ h ⟨_,fF.refl _,_,.inl ⟨hg,hp hT hM⟩,hr hT hM hz⟩
theorem g_d {i:Nat}(h:xr T (n-2000) cf k s=some (.code (.region i a true),k',s'))(hx:Nat.ble 2000 n=true:=by rfl)(hok:l7 a=true:=by kernel_rfl)(hr:Go P w0 M0 Q T (n1 :: ns) ids oids k' (.drw a a.toList 0) s' z:=by first|exact gw|fail):Go P w0 M0 Q T (n :: n1 :: ns) ids oids k cf s z:=fun hT hM hz =>
 rK hT hM _ cf k s _ h (uh hT.2 hok _ rfl (hr hT hM hz))
theorem g_q (h:xr T n cf k s=some (.drw a (o :: r) i,k',⟨m,l,ob⟩))(hg:guardOf a (St.ev ⟨m,l,ob⟩) o=some true)(ht:o.dst=some t)(hn:Nat.blt t m=true)(hp:PG P w0 M0 T o (fq a o (St.ev ⟨m,l,ob⟩)) ob d:=by first|exact Z0|fail)(hl:BS t d l some=some l':=by rfl)(hr:Go P w0 M0 Q T (n1 :: ns) ids oids k' (.drw a r (i+1)) ⟨m,l',ob⟩ z:=by first|exact gw|fail):Go P w0 M0 Q T ((n+6000) :: n1 :: ns) ids oids k cf s z:=fun hT hM hz=>by rw[oH] at hl;cases hl;exact rK hT hM n cf k s _ h (oD hg ht hn (hp hT hM) (hr hT hM hz))
theorem g_p (h:xr T n cf k s=some (.ops a (o :: r),k',⟨m,l,ob⟩))(hd:DN a o ⟨m,l,ob⟩=some t)(hp:PG P w0 M0 T o (St.ev ⟨m,l,ob⟩) ob d:=by first|exact ruP|fail)
  (hl:BS t d l some=some l':=by rfl)(hr:Go P w0 M0 Q T (n1 :: ns) ids oids k' (.ops a r) ⟨m,l',ob⟩ z:=by first|exact gw|fail):Go P w0 M0 Q T (n :: n1 :: ns) ids oids k cf s z:=fun hT hM hz=>by
 rw[oH] at hl;cases hl;exact rK hT hM n cf k s _ h (oP hd (hp hT hM) (hr hT hM hz))
theorem dF {f : Nat} {F : Func} (t : Nat) (h : P.funcs[f]? = some F) (h1 : F.body = some (F.body.getD .skip) := by rfl) (h2 : F.results = #[.tmp t] := by rfl) (h3 : (F.name == "runtime.NumGoroutine") = false := by kernel_rfl) : HO P f F.ntmps t (F.body.getD .skip) := ⟨F, h, h1, rfl, h2, h3⟩
theorem cF {f n t:Nat}{c:Code}(hf:HO P f n t c){ds:List AV}{r:RV}(h:∀(w0:Fr)(M0:Nat→Prop),(∀b,M0 b→b<w0.w.heap.size)→ao P w0 M0 c (St.enter n .mx ds) (zC t r))(hn:ds.length≤n:=by exact aah rfl):ak P f ds r:=zD hf hn h
theorem cN {f n t:Nat}{c:Code}(hf:HO P f n t c){ds:List AV}{r:RV}(h:∀(w0:Fr)(M0:Nat→Prop),(∀b,M0 b→b<w0.w.heap.size)→ao P w0 M0 c (St.enter n .pl ds) (zC t r))(hn:ds.length≤n:=by exact aah rfl):aU P f ds r:=zE hf hn h
section calls
variable {cx:Operand} {args:Array Operand}{ats:Array TypeId}{c c':fW}{f:FuncId}{caps ds:List AV}{rv:RV}
theorem oC (hd:DN a o ⟨m,l,ob⟩=some t)(ho:o.op=.call { callee:=.value cx,args:=args,argTypes:=ats })(hc:St.ev ⟨m,l,ob⟩ cx=some (.v c (.clo f caps)))(ha:jg (St.ev ⟨m,l,ob⟩) ob args.toList=some ds)(h:ak P f (ds++caps) rv)(hr:At P w0 M0 Q k (.ops a r) ⟨m,ins t (.v .pl rv.data) l,ob⟩)(hM:HM w0 M0:=by exact aa):At P w0 M0 Q k (.ops a (o :: r)) ⟨m,l,ob⟩:=oP hd (cm ho hc ha h hM) hr
theorem oN (hd:DN a o ⟨m,l,ob⟩=some t)(ho:o.op=.call { callee:=.value cx,args:=args,argTypes:=ats })(hc:St.ev ⟨m,l,ob⟩ cx=some (.v c' (.clo f caps)))(ha:iV (St.ev ⟨m,l,ob⟩) ob args.toList=some (c,ds))(hcap:caps=[])(h:aU P f ds rv)(hr:At P w0 M0 Q k (.ops a r) ⟨m,ins t (.v c rv.data) l,ob⟩)(hM:HM w0 M0:=by exact aa):At P w0 M0 Q k (.ops a (o :: r)) ⟨m,l,ob⟩:=oP hd (bC ho hc ha hcap h hM) hr
theorem oE (hg:guardOf a (St.ev ⟨m,l,ob⟩) o=some true)(ht:o.dst=some t)(hn:Nat.blt t m=true)(ho:o.op=.call { callee:=.value cx,args:=args,argTypes:=ats })(hc:fq a o (St.ev ⟨m,l,ob⟩) cx=some (.v c (.clo f caps)))(ha:jg (fq a o (St.ev ⟨m,l,ob⟩)) ob args.toList=some ds)(h:ak P f (ds++caps) rv)(hr:At P w0 M0 Q k (.drw a r (i+1)) ⟨m,ins t (.v .pl rv.data) l,ob⟩)(hM:HM w0 M0:=by exact aa):At P w0 M0 Q k (.drw a (o :: r) i) ⟨m,l,ob⟩:=oD hg ht hn (cm ho hc ha h hM) hr
theorem oF (hg:guardOf a (St.ev ⟨m,l,ob⟩) o=some true)(ht:o.dst=some t)(hn:Nat.blt t m=true)(ho:o.op=.call { callee:=.value cx,args:=args,argTypes:=ats })(hc:fq a o (St.ev ⟨m,l,ob⟩) cx=some (.v c' (.clo f caps)))(ha:iV (fq a o (St.ev ⟨m,l,ob⟩)) ob args.toList=some (c,ds))(hcap:caps=[])(h:aU P f ds rv)(hr:At P w0 M0 Q k (.drw a r (i+1)) ⟨m,ins t (.v c rv.data) l,ob⟩)(hM:HM w0 M0:=by exact aa):At P w0 M0 Q k (.drw a (o :: r) i) ⟨m,l,ob⟩:=oD hg ht hn (bC ho hc ha hcap h hM) hr
end calls
theorem xe {Q:St→Prop}{L:Array Bool}(i:Nat)(h:pA P w0 M0 ops Q n (L.setIfInBounds i true) (s.put t d))(hT:eX P T:=by exact tb)(hM:HM w0 M0:=by exact aa)(hr:Region.ready .any ops L=[i]:=by kernel_rfl)(ho:ops[i]?=some o:=by rfl)(hg:o.guard=none:=by rfl)(hd:o.dst=some t:=by rfl)(hn:Nat.blt t s.n=true:=by rfl)(hp:PG P w0 M0 T o s.ev s.o d:=by first|exact Z2|fail):pA P w0 M0 ops Q (n+1) L s:=aJ hr ho hg (aN hd hn (hp hT hM)) h
theorem xf {Q:St→Prop}{L:Array Bool}(i:Nat)(h:pA P w0 M0 ops Q n (L.setIfInBounds i true) s')(hT:eX P T:=by exact tb)(hM:HM w0 M0:=by exact aa)(hr:Region.ready .any ops L=[i]:=by kernel_rfl)(ho:ops[i]?=some o:=by rfl)(hg:o.guard=none:=by rfl)(hp:SG P w0 M0 T o s s':=by first|exact Z1|fail):pA P w0 M0 ops Q (n+1) L s:=aJ hr ho hg (hp hT hM) h
def S7 {α:Type}:List (Nat×α)→List (Nat×α)→List (Nat×α)
 | [],l=>l
 | (t,d) :: r,l=>S7 r (ins t d l)
abbrev eJ (n:Nat)(c:List (Nat×SV))(l:List (Nat×SV))(co:List (Nat×Ob))(o:List (Nat×Ob)):St:=⟨n,S7 c l,S7 co o⟩
theorem lr {c:Code}(I:List (Nat×SV)→List (Nat×Ob)→Nat→St→Prop)(h0:∃n,I l ob n ⟨m,l,ob⟩)(hr:∀n s,I l ob n s→At P w0 M0 Q (.loop (I l ob) n :: k) (.code c) s):At P w0 M0 Q k (.code (.loop c)) ⟨m,l,ob⟩:=lp (I l ob) h0 hr
def PU (ob o' : List (Nat × Ob)) (l : List (Nat × SV)) : List (Nat × Bool) → Option (List (Nat × SV))
 | []=>some []
 | (t, z) :: r => match l.lookup t with
   | none=>none
   | some q => match PU ob o' l r with
     | none=>none
     | some l' => match z with
       | false=>some ((t,q) :: l')
       | true => match RA ob o' q with
         | some a=>some ((t,.v .pl a) :: l')
         | none=>none
theorem B5 {s:St}{o':List (Nat×Ob)}:∀{ids:List (Nat×Bool)}{l':List (Nat×SV)},PU s.o o' s.s ids=some l'→DC s o' l'
 | [],l',h=>by cases h;trivial
 | (t, z) :: r, l', h => by
   unfold PU at h;split at h
   · cases h
   · rename_i q hq
     split at h
     · cases h
     · rename_i l1 h1
       cases z with
       | false=>cases h;exact⟨.inl hq,B5 h1⟩
       | true =>
         simp only at h;split at h
         · rename_i a ha;cases h;exact⟨.inr ⟨_,_,hq,ha,rfl⟩,B5 h1⟩
         · cases h
theorem UZ {ρ:Operand→Option SV}(hT:eX P T)(hM:HM w0 M0)(h:PG P w0 M0 T o ρ ob d):Pure P w0 M0 o ρ ob d:=h hT hM
def XZ (k:Nat)(E:List Nat)(S:List (Nat×List Nat)):List (Nat×Option (List Nat)):=((List.range k).filter fun j=>!E.contains j).map fun j=>(j,S.lookup j)
theorem dC {id:Nat}{s0:List (Nat×SV)}{o0:List (Nat×Ob)}(E:List Nat)(O:List (List (Nat×Ob)))(i:Nat)(S:List (Nat×List Nat))(G:List (Nat×SV)){Q':Exit→St→Prop}(hP:xO (ZZ P w0 M0 ops n G fun p=>O.getD p []) (XZ i E S))(hE:xO (XU P w0 M0 ops n G (fun p=>E.getD p 0) fun p=>O.getD p []) (List.range E.length))
  (hend:rZ P w0 M0 ops (fun s=>∃s',fF P w0 M0 s s'∧Q' .normal s') i ⟨n,G,O.getD E.length []⟩)(ho:O.getD 0 []=o0:=by rfl)(hm:P.follows .mixedOrders=true:=by exact mixed)(hok:l7 ops=true:=by kernel_rfl)(htl:fz ops i=true:=by kernel_rfl)(hmid:uv ops n i (zL (fun p=>E.getD p 0) E.length)=true:=by kernel_rfl)(hc:wD ops (fun p=>E.getD p 0) E.length i=true:=by kernel_rfl)(hL:ZY ops (fun p=>E.getD p 0) E.length i (XZ i E S)=true:=by kernel_rfl)
  (hset:Mz ops G i=true:=by rfl)(hG:∀t d,(G.filter fun p=>ez ops i #[] p.1).lookup t=some d→s0.lookup t=some d:=by intro t d h;exact h)(hnd:Nodup G=true:=by rfl):ao P w0 M0 (.region id ops true) ⟨n,s0,o0⟩ Q':=by
 subst ho;exact Gs E.length (fun p=>E.getD p 0) (fun p=>O.getD p []) i (XZ i E S) G hm hok htl hmid hc hL hset hG hnd hP hE hend
variable {z1 z2:Prop}{c:Code}
theorem wA (ns ids oids:List Nat)(q:z)(hT:eX P T:=by exact tb)(hM:HM w0 M0:=by exact aa)(h:Go P w0 M0 Q T ns ids oids k cf s z:=by first|exact gw|fail):At P w0 M0 Q k cf s:=h hT hM q
theorem wS (ns ids oids:List Nat)(q1:z1)(q2:z2)(hT:eX P T:=by exact tb)(hM:HM w0 M0:=by exact aa)(h:Go P w0 M0 Q T ns ids oids k cf s (z1∧z2):=by first|exact gw|fail):At P w0 M0 Q k cf s:=h hT hM ⟨q1,q2⟩
theorem wZ (ns:List Nat)(q:z)(hT:eX P T:=by exact tb)(hM:HM w0 M0:=by exact aa)(h:Go P w0 M0 Q T ns [] [] k cf s z:=by first|exact gw|fail):At P w0 M0 Q k cf s:=h hT hM q
theorem c4 (ns ids oids:List Nat)(q:z)(hT:eX P T:=by exact tb)(hM:HM w0 M0:=by exact aa)(h:Go P w0 M0 Q T ns ids oids [] (.code c) s z:=by first|exact gw|fail):ao P w0 M0 c s Q:=h hT hM q
theorem pW (ns ids oids:List Nat)(q1:z1)(q2:z2)(hT:eX P T:=by exact tb)(hM:HM w0 M0:=by exact aa)(h:Go P w0 M0 Q T ns ids oids [] (.code c) s (z1∧z2):=by first|exact gw|fail):ao P w0 M0 c s Q:=h hT hM ⟨q1,q2⟩
theorem AD (ns:List Nat)(q:z)(hT:eX P T:=by exact tb)(hM:HM w0 M0:=by exact aa)(h:Go P w0 M0 Q T ns [] [] [] (.code c) s z:=by first|exact gw|fail):ao P w0 M0 c s Q:=h hT hM q
theorem gz (ns ids oids:List Nat)(q:z)(hT:eX P T:=by exact tb)(hM:HM w0 M0:=by exact aa)(h:Go P w0 M0 Q T ns ids oids k (.code c) s z:=by first|exact gw|fail):ao P w0 M0 c s (toQ P w0 M0 Q k):=h hT hM q
theorem U0 (ns ids oids:List Nat)(q1:z1)(q2:z2)(hT:eX P T:=by exact tb)(hM:HM w0 M0:=by exact aa)(h:Go P w0 M0 Q T ns ids oids k (.code c) s (z1∧z2):=by first|exact gw|fail):ao P w0 M0 c s (toQ P w0 M0 Q k):=h hT hM ⟨q1,q2⟩
theorem xP (ns:List Nat)(q:z)(hT:eX P T:=by exact tb)(hM:HM w0 M0:=by exact aa)(h:Go P w0 M0 Q T ns [] [] k (.code c) s z:=by first|exact gw|fail):ao P w0 M0 c s (toQ P w0 M0 Q k):=h hT hM q
theorem Xw {a:Array Oper}{r:List Oper}(ns ids oids:List Nat)(q:z)(hT:eX P T:=by exact tb)(hM:HM w0 M0:=by exact aa)(h:Go P w0 M0 Q T ns ids oids k (.ops a r) s z:=by first|exact gw|fail):kr P w0 M0 a (toQ P w0 M0 Q k .normal) r s:=h hT hM q
theorem Gt {a:Array Oper}{r:List Oper}(ns:List Nat)(q:z)(hT:eX P T:=by exact tb)(hM:HM w0 M0:=by exact aa)(h:Go P w0 M0 Q T ns [] [] k (.ops a r) s z:=by first|exact gw|fail):kr P w0 M0 a (toQ P w0 M0 Q k .normal) r s:=h hT hM q
theorem iS {e:Exit}(ns ids oids:List Nat)(q:z)(hT:eX P T:=by exact tb)(hM:HM w0 M0:=by exact aa)(h:Go P w0 M0 Q T ns ids oids k (.done e) s z:=by first|exact gw|fail):toQ P w0 M0 Q k e s:=h hT hM q
theorem wDS {e:Exit}(ns ids oids:List Nat)(q1:z1)(q2:z2)(hT:eX P T:=by exact tb)(hM:HM w0 M0:=by exact aa)(h:Go P w0 M0 Q T ns ids oids k (.done e) s (z1∧z2):=by first|exact gw|fail):toQ P w0 M0 Q k e s:=h hT hM ⟨q1,q2⟩
theorem Db {e:Exit}(ns:List Nat)(q:z)(hT:eX P T:=by exact tb)(hM:HM w0 M0:=by exact aa)(h:Go P w0 M0 Q T ns [] [] k (.done e) s z:=by first|exact gw|fail):toQ P w0 M0 Q k e s:=h hT hM q
end
end Go.Am
