/-
  Part of the proof.
-/
import Derived.Test.YtlapahnodhmcpaaGreatJ0
import Derived.Test.YtlapahnodhmcpaaGreatJ22
import Derived.Test.YtlapahnodhmcpaaGreatJ12
import Derived.Test.YtlapahnodhmcpaaGreatJ21
import Derived.Test.YtlapahnodhmcpaaGreatJ14
import Derived.Shelf.SlSortCmp.Whole1
import Derived.Lib.IndexAny
import Derived.Test.YtlapahnodhmcpaaGreatJ6
import Derived.Test.YtlapahnodhmcpaaGreatJ10
import Derived.Test.YtlapahnodhmcpaaGreatJ16
import Derived.Test.YtlapahnodhmcpaaGreatJ15
set_option linter.unusedVariables false
set_option linter.unusedSectionVars false
set_option linter.unusedSimpArgs false
set_option maxRecDepth 100000
set_option maxHeartbeats 40000000
namespace Go.Am
open Go.RowKit
variable{f n u v:Nat}{r r' r'':AV}
section
variable {P:Program} {w0:Fr}{M0:Nat→Prop}
def Qo (P : Program) (f : FuncId) (n t : Nat) (T : TypeId) (k u v : Nat) (c : Code) : Prop := ∃ fn, P.funcs[f]? = some fn ∧ fn.body = some c ∧ fn.ntmps = n ∧ fn.results = #[.cell t T, .tmp u, .tmp v] ∧ (fn.name == "runtime.NumGoroutine") = false ∧ bo P T = some true ∧ bY P T = some k
theorem Qo.bu {t k:Nat}{T:TypeId}{c:Code}(h:Qo P f n t T k u v c):cg P f:=by obtain⟨fn,h1,h2,_,_,h5,_⟩:=h;exact⟨fn,h1,h5,by rw[h2];rfl⟩
def R9 (t k u v:Nat)(r r' r'':AV):Exit→St→Prop
 | .normal,s|.ret,s=>(∃q,((s.s.lookup t).bind (sb s.o k)).bind (bR s.o)=some q∧q.data=r)∧(∃q,(s.s.lookup u).bind (bR s.o)=some q∧q.data=r')∧(∃q,(s.s.lookup v).bind (bR s.o)=some q∧q.data=r'')
 | _,_=>False
theorem three {w:World}{M:Nat→Prop}{a b c:Value}(h1:bJ w M a r)(h2:bJ w M b r')(h3:bJ w M c r''):bJ w M (.tuple #[a,b,c]) (.tup [r,r',r'']) :=
 .tup [a,b,c] [r,r',r''] rfl (fun j d hd=>by
  match j,hd with
  | 0,hd=>simp at hd;subst hd;exact h1
  | 1,hd=>simp at hd;subst hd;exact h2
  | 2,hd=>simp at hd;subst hd;exact h3
  | j+3,hd=>simp at hd)
theorem wq {t k:Nat}{T:TypeId}{c:Code}(hf:Qo P f n t T k u v c){ds:List AV}(hn:ds.length≤n)
   (h:∀(w0:Fr)(M0:Nat→Prop),(∀b,M0 b→b<w0.w.heap.size)→ao P w0 M0 c (St.enter n .pl ds) (R9 t k u v r r' r'')):aU P f ds (.p (.tup [r,r',r''])):=by
 refine⟨hf.bu,fun w M vs hM hv hr=>?_⟩;have h0:=h (Fr.all w) M hM;rw[eU] at h0;obtain⟨fn,h1,h2,h3,h4,h5,h6,h7⟩:=hf;refine(dm h1 h2 h3 (R:=fun z E' s' w'=>Below w.heap.size w w'∧iJ P w' M (fun b=>b<w.heap.size) z (.p (.tup [r,r',r'']))) (by simpa using hn) vs (by simpa using hv) jP (fun j d hd=>?_) h0 (fun e s' a' w' E' hq hs=>?_)).mono fun e w' ⟨v,E',s',he,hR⟩=>⟨v,he,hR⟩
 · rw [aap, aao] at hd
   obtain⟨a,ha,rfl⟩:=hd;have:=hr j a ha;exact this.cd (fun b hb=>Or.elim hb id (fun h=>by rw[ei] at h;exact h.elim))
 · have fin : ((∃ q, ((s'.s.lookup t).bind (sb s'.o k)).bind (bR s'.o) = some q ∧ q.data = r) ∧ (∃ q, (s'.s.lookup u).bind (bR s'.o) = some q ∧ q.data = r') ∧ (∃ q, (s'.s.lookup v).bind (bR s'.o) = some q ∧ q.data = r'')) →
       ∃z,(results fn a'.tmps).run P w'=.ok z w'∧Below w.heap.size w w'∧iJ P w' M (fun b=>b<w.heap.size) z (.p (.tup [r,r',r''])):=by
     rintro⟨⟨q1,hb,hd1⟩,⟨q2,hu,hd2⟩,⟨q3,hv3,hd3⟩⟩;rw[abc] at hb;obtain⟨sv',hb,hret⟩:=hb;rw[abc] at hb;obtain⟨sv,hl,hb⟩:=hb;rw[abc] at hu;obtain⟨su,hlu,hretu⟩:=hu;rw[abc] at hv3;obtain⟨s3,hl3,hret3⟩:=hv3;obtain⟨z,g1,g2⟩:=iD h6 h7 hs.wok (hs.slots t sv hl).2 hb;have r1:=(dY hs.wok g2 hret).rep (fun b hb=>hM b hb);have r2:=(dY hs.wok (hs.slots u su hlu).2 hretu).rep (fun b hb=>hM b hb);have r3:=(dY hs.wok (hs.slots v s3 hl3).2 hret3).rep (fun b hb=>hM b hb);rw[hd1] at r1;rw[hd2] at r2;rw[hd3] at r3;refine⟨.tuple #[z,a'.tmps.getD u undef,a'.tmps.getD v undef],?_,hs.wok.below.below,three r1 r2 r3⟩;have g1':((Sem.run P (asAddr (a'.tmps[t]?.getD undef)) w').andThen fun x w=>Sem.run P (loadVar T x) w)=.ok z w':=by simpa using g1
     simp[results,h4,Sem.run_bind];revert g1';cases Sem.run P (asAddr (a'.tmps[t]?.getD undef)) w' with
     | ok a w2=>intro g;simp only[Result.andThen_ok] at g ⊢;rw[g];rfl
     | _=>intro g;exact absurd g (by simp[Result.andThen])
   cases e with
   | normal=>exact⟨.inl rfl,fin hq⟩
   | ret=>exact⟨.inr rfl,fin hq⟩
   | exit _=>exact hq.elim
   | goto _=>exact hq.elim
   | panic _=>exact hq.elim
   | outgrown=>exact hq.elim
theorem uT {t k:Nat}{s:St}{q q' q'':RV}(h:((s.s.lookup t).bind (sb s.o k)).bind (bR s.o)=some q)(h':(s.s.lookup u).bind (bR s.o)=some q')(h'':(s.s.lookup v).bind (bR s.o)=some q'')(e:q.data=r∧q'.data=r'∧q''.data=r''):R9 t k u v r r' r'' .ret s:=⟨⟨q,h,e.1⟩,⟨q',h',e.2.1⟩,⟨q'',h'',e.2.2⟩⟩
def Sa (t u k v:Nat)(r r' r'':AV):Exit→St→Prop
 | .normal,s|.ret,s=>(∃q,(s.s.lookup t).bind (bR s.o)=some q∧q.data=r)∧(∃q,((s.s.lookup u).bind (sb s.o k)).bind (bR s.o)=some q∧q.data=r')∧(∃q,(s.s.lookup v).bind (bR s.o)=some q∧q.data=r'')
 | _,_=>False
theorem px {t k:Nat}{T:TypeId}{c:Code}(hf:PN P f n t u T k v c){ds:List AV}(hn:ds.length≤n)
   (h:∀(w0:Fr)(M0:Nat→Prop),(∀b,M0 b→b<w0.w.heap.size)→ao P w0 M0 c (St.enter n .pl ds) (Sa t u k v r r' r'')):aU P f ds (.p (.tup [r,r',r''])):=by
 refine⟨hf.bu,fun w M vs hM hv hr=>?_⟩;have h0:=h (Fr.all w) M hM;rw[eU] at h0;obtain⟨fn,h1,h2,h3,h4,h5,h6,h7⟩:=hf;refine(dm h1 h2 h3 (R:=fun z E' s' w'=>Below w.heap.size w w'∧iJ P w' M (fun b=>b<w.heap.size) z (.p (.tup [r,r',r'']))) (by simpa using hn) vs (by simpa using hv) jP (fun j d hd=>?_) h0 (fun e s' a' w' E' hq hs=>?_)).mono fun e w' ⟨v,E',s',he,hR⟩=>⟨v,he,hR⟩
 · rw [aap, aao] at hd
   obtain⟨a,ha,rfl⟩:=hd;have:=hr j a ha;exact this.cd (fun b hb=>Or.elim hb id (fun h=>by rw[ei] at h;exact h.elim))
 · have fin : ((∃ q, (s'.s.lookup t).bind (bR s'.o) = some q ∧ q.data = r) ∧ (∃ q, ((s'.s.lookup u).bind (sb s'.o k)).bind (bR s'.o) = some q ∧ q.data = r') ∧ (∃ q, (s'.s.lookup v).bind (bR s'.o) = some q ∧ q.data = r'')) →
       ∃z,(results fn a'.tmps).run P w'=.ok z w'∧Below w.heap.size w w'∧iJ P w' M (fun b=>b<w.heap.size) z (.p (.tup [r,r',r''])):=by
     rintro⟨⟨q2,hu,hd2⟩,⟨q1,hb,hd1⟩,⟨q3,hv3,hd3⟩⟩;rw[abc] at hb;obtain⟨sv',hb,hret⟩:=hb;rw[abc] at hb;obtain⟨sv,hl,hb⟩:=hb;rw[abc] at hu;obtain⟨su,hlu,hretu⟩:=hu;rw[abc] at hv3;obtain⟨s3,hl3,hret3⟩:=hv3;obtain⟨z,g1,g2⟩:=iD h6 h7 hs.wok (hs.slots u sv hl).2 hb;have r1:=(dY hs.wok g2 hret).rep (fun b hb=>hM b hb);have r2:=(dY hs.wok (hs.slots t su hlu).2 hretu).rep (fun b hb=>hM b hb);have r3:=(dY hs.wok (hs.slots v s3 hl3).2 hret3).rep (fun b hb=>hM b hb);rw[hd1] at r1;rw[hd2] at r2;rw[hd3] at r3;refine⟨.tuple #[a'.tmps.getD t undef,z,a'.tmps.getD v undef],?_,hs.wok.below.below,three r2 r1 r3⟩;have g1':((Sem.run P (asAddr (a'.tmps[u]?.getD undef)) w').andThen fun x w=>Sem.run P (loadVar T x) w)=.ok z w':=by simpa using g1
     simp[results,h4,Sem.run_bind];revert g1';cases Sem.run P (asAddr (a'.tmps[u]?.getD undef)) w' with
     | ok a w2=>intro g;simp only[Result.andThen_ok] at g ⊢;rw[g];rfl
     | _=>intro g;exact absurd g (by simp[Result.andThen])
   cases e with
   | normal=>exact⟨.inl rfl,fin hq⟩
   | ret=>exact⟨.inr rfl,fin hq⟩
   | exit _=>exact hq.elim
   | goto _=>exact hq.elim
   | panic _=>exact hq.elim
   | outgrown=>exact hq.elim
theorem lY {t k:Nat}{s:St}{q q' q'':RV}(h:(s.s.lookup t).bind (bR s.o)=some q)(h':((s.s.lookup u).bind (sb s.o k)).bind (bR s.o)=some q')(h'':(s.s.lookup v).bind (bR s.o)=some q'')(e:q.data=r∧q'.data=r'∧q''.data=r''):Sa t u k v r r' r'' .ret s:=⟨⟨q,h,e.1⟩,⟨q',h',e.2.1⟩,⟨q'',h'',e.2.2⟩⟩
end
open Go.Sort Go.Proofs
structure NO (P:Program)(f:FuncId):Prop where
 bu:cg P f
 none:∀(p:Option Addr)(cap:Nat)(fv:Value)(w:World),Calls P f #[.slice p 0 cap,fv] w fun e w'=>e=.returned (.tuple #[])∧w'=w
 some:∀{α:Type} [Inhabited α](enc:α→Value)(h1:OneCell enc)(cf:α→α→Int)(hO:SWO (ltOf cf))(g:Nat)(cb:Array Value)(blk off cap:Nat)(d:Array α)(w:World)
  (eg:∀args w,(callFunc g args).run P w=.ok (.enter g args) w)(hcmp:CmpLays1 P g cb enc cf blk off d.size w)(hH:Holds enc w blk off d)(hblk:blk<w.heap.size)(hsz:d.size<4611686018427387904),
  Calls P f #[.slice (.some ⟨blk,off,.none⟩) d.size cap,.func (.func g) #[] cb] w fun e w' =>
   e=.returned (.tuple #[])∧∃d' n os,PermIn 0 d.size d d'∧SortedIn (ltOf cf) 0 d.size d'∧w'=sortWorld enc w blk off n d' os
section
variable {P:Program} {w0:Fr}{M0:Nat→Prop}
variable {o:Oper} {s:St}{x y:Operand}{T T' e:TypeId}{c:fW}{id t k:Nat}
theorem GR {β:Type} {f0:β→AV} {cf:β→β→Int} {p:β→Prop} {l:List β} {f g:FuncId} {caps:List AV} {ats:Array TypeId} (hS:NO P f) (ho:o.op=.call { callee:=.value (.func f),args:=#[x,y],argTypes:=ats }) (hd:o.dst=some t) (hn:Nat.blt t s.n=true)
   (hnd:Nodup s.s=true)(hx:s.ev x=some (.own id))(hl:s.o.lookup id=some (.arr e (l.map f0)))(hy:s.ev y=some (.v .pl (.clo g caps)))(hk:bY P e=some 1)(hlf:∀z,AV.leaf (f0 z)=true)(hp:∀z∈l,p z)
   (hc:∀a b:β,p a→p b→ak P g ([f0 a,f0 b]++caps) (.p (int (cf a b))))(hg:cg P g)(hirr:∀a,p a→¬cf a a<0)(htr:∀a b c,p a→p b→p c→cf a b<0→cf b c<0→cf a c<0)
   (htot:∀a b,p a→p b→¬cf a b<0→¬cf b a<0→a=b)(hsz:l.length<4611686018427387904)(aa:∀b,M0 b→b<w0.w.heap.size) :
   Step P w0 M0 o s ((s.cC false id (.arr e ((l.mergeSort fun x y=>!decide (cf y x<0)).map f0))).put t (.v .pl (.tup []))):=by
 rintro a w Q ⟨E,hs⟩;have hxv:=hs.ev hx _ _ hl;have hyv:bJ w (cB M0 (owned E s.o) .pl) (a.eval y) (.clo g caps):=hs.ev hy;have hob:=hs.wok.objs id _ hl;obtain⟨vals,⟨hown,hownF⟩,hcl,hrp⟩:=hob;have hck:=cL hk;have hxl:(l.map f0).length=l.length:=by simp
 have hvlen:vals.length=l.length:=by have:=hown.1;rw[hck] at this;simpa using this
 have hfla:flat (l.map f0)=l.map f0:=jD fun x hx=>by obtain⟨z,_,rfl⟩:=aaG.1 hx;exact hlf z
 have hrepx:∀i (hi:i<l.length),bJ w (cB M0 (owned E s.o) .pl) (vals.getD i undef) (f0 l[i]):=fun i hi =>
   (hrp i (f0 l[i]) (by rw[hfla,aap,aal hi];rfl)).2
 generalize hq:a.eval y=q at hyv;cases hyv with
 | clo _ cb _ hnc hr =>
   have hrun:(execOp a.eval o).run P w=.ok (.enter f #[E.cur id,.func (.func g) #[] cb.toArray]) w:=by
     have:=fE (P:=P) (ev:=a.eval) (w:=w) (caps:=#[]) ho rfl hS.bu;simpa[hxv,hq] using this
   unfold Oper.wp;rw[hrun];simp only[Oper.upon];rcases hown.2 with⟨hv,hn0⟩|⟨gb,cap,cur,hv,hgb,hh,hnc',hcm,hcs,htake⟩
   · -- nothing to sort
     have hl0:l=[]:=aaD (by simpa using hn0);rw[hv];refine(hS.none none 0 _ w).mono fun e' w' ⟨he,hw⟩=>?_
     subst he;subst hw;simp only[hd];refine⟨E,ba.put ?_ (by simpa[St.cC] using hn) (bJ.tup [] [] J (fun j d hd=>by simp at hd))⟩;refine hs.cC false (fun _=>⟨rfl,.inl ⟨e,_,_,hl,rfl,by simp⟩⟩) hnd aa (fun i hi=>⟨rfl,rfl⟩) (.inr J) none ⟨rfl,rfl,rfl,aak _,fun _ _ _=>rfl⟩ (fun _=>aak _) (fun g hg'=>by cases hg') (fun b hb=>.inl ⟨_,hl,hb⟩) (fun rep sv=>?_);subst hl0;simp only[acp,abu];refine⟨[],⟨⟨by simp,.inl ⟨hv,rfl⟩⟩,hownF⟩,fun x hx=>(by cases hx),fun j d hd=>(by simp[flat] at hd)⟩
   · rw [hxl] at hv hnc' htake
     rw[hck,abJ] at hcs;rw[hck,abJ] at htake;rcases aby l.length with hl0|hpos
     · -- nothing to sort, with room behind
       have hl0:l=[]:=aaD hl0;rw[hv,hl0];refine(hS.none _ cap _ w).mono fun e' w' ⟨he,hw⟩=>?_
       subst he;subst hw;simp only[hd];refine⟨E,ba.put ?_ (by simpa[St.cC] using hn) (bJ.tup [] [] J (fun j d hd=>by simp at hd))⟩;refine hs.cC false (fun _=>⟨rfl,.inl ⟨e,_,_,hl,rfl,by simp[hl0]⟩⟩) hnd aa (fun i hi=>⟨rfl,rfl⟩) (.inr J) none ⟨rfl,rfl,rfl,aak _,fun _ _ _=>rfl⟩ (fun _=>aak _) (fun g hg'=>by cases hg') (fun b hb=>.inl ⟨_,hl,hb⟩) (fun rep sv=>?_);simp only[acp,abu];refine⟨[],⟨⟨by simp,.inr ⟨gb,cap,cur,by rw[hv,hl0];rfl,hgb,hh,aan _,hcm,by rw[hck,abJ];exact hcs,by simp⟩⟩,hownF⟩,fun x hx=>(by cases hx),fun j d hd=>(by simp[flat] at hd)⟩
     · have hblk : gb < w.heap.size := (aaV.1 hh).1
       have:Inhabited {i // i<l.length}:=⟨⟨0,hpos⟩⟩
       let d:List {i // i<l.length}:=(List.range l.length).attach.map fun z=>⟨z.1,aaI.1 z.2⟩
       have hdl:d.map (·.1)=List.range l.length:=by simp[d,aco,acG]
       have hdlen:d.length=l.length:=by simp[d]
       let enc':{i // i<l.length}→Value:=fun z=>vals.getD z.1 undef
       let cf':{i // i<l.length}→{i // i<l.length}→Int:=fun x y=>cf (l[x.1]'x.2) (l[y.1]'y.2)
       have hpl:∀x:{i // i<l.length},p (l[x.1]'x.2):=fun x=>hp _ (abp x.2)
       have hone:OneCell enc':=fun x=>bJ.one (hrepx x.1 x.2) (hlf _)
       have hO:SWO (ltOf cf'):=by
         refine⟨fun x=>by simpa[ltOf,cf'] using hirr _ (hpl x),fun x y z h h'=>?_,fun x y z h h'=>?_⟩
         · simp only [ltOf, cf', decide_eq_true_eq] at h h' ⊢
           exact htr _ _ _ (hpl x) (hpl y) (hpl z) h h'
         · simp only [ltOf, cf', decide_eq_false_iff_not] at h h' ⊢
           intro hxz;by_cases hyx:cf (l[y.1]'y.2) (l[x.1]'x.2)<0
           · exact h' (htr _ _ _ (hpl y) (hpl x) (hpl z) hyx hxz)
           · have := htot _ _ (hpl x) (hpl y) h hyx
             rw[this] at hxz;exact h' hxz
       have hcurj:∀j (hj:j<l.length),cur[j]?=some (vals.getD j undef):=fun j hj=>by
         have:(cur.toList.take l.length)[j]?=vals[j]?:=by rw[htake]
         rw[aa1,if_pos hj,aaS] at this;rw[this,aag,aal acK];rfl
       have hdj:∀j (hj:j<l.length),(d.toArray[j]!).1=j:=fun j hj=>by
         rw[getElem!_pos d.toArray j (by simpa[hdlen] using hj)];simp[d]
       have hH:Holds enc' w gb 0 d.toArray:=by
         intro j hj;have hj':j<l.length:=by simpa[hdlen] using hj
         refine⟨?_,?_⟩
         · simp only [World.cell?, hh, abg, enc', hdj j hj']
           exact hcurj j hj'
         · simp only [World.frozen?, hh]
           simp
       have hcmp:CmpLays1 P g cb.toArray enc' cf' gb 0 d.toArray.size w:=by
         intro m os dk hdk x y;obtain⟨_,hcall⟩:=hc (l[x.1]'x.2) (l[y.1]'y.2) (hpl x) (hpl y);generalize hW:sortWorld enc' w gb 0 m dk os=W;have hsz2:w.heap.size≤W.heap.size:=by rw[←hW,fH];omega
         have hoth:∀b,b≠gb→b<w.heap.size→W.heap[b]?=w.heap[b]?:=fun b h1 h2=>by rw[←hW];exact eQ _ _ _ _ _ _ h1 h2
         have hnob:∀b,¬cB M0 (owned E s.o) .pl b→b≠gb:=fun b hb he=>by
           subst he;exact hb (.inr ⟨id,_,hl,by simp only[bE,hv,Value.ownBlock]⟩)
         have hrepW:∀x:{i // i<l.length},bJ W (fun _=>False) (enc' x) (f0 (l[x.1]'x.2)):=fun x =>
           (hrepx x.1 x.2).mono hsz2 (fun b hb hnM=>hoth b (hnob b hnM) hb) (fun b _ _ hf=>hf)
         have hc2:=hcall W ([enc' x,enc' y]++cb) (by simp[hnc]) (fun j d' hd'=>?_)
         · have e1 : ([enc' x, enc' y] ++ cb).toArray = #[enc' x, enc' y] ++ cb.toArray := by apply ab1; simp
           rw[e1] at hc2;refine hc2.mono fun e' w' ⟨v,he,hb,hrv⟩=>⟨?_,rI hb⟩
           have hrv':bJ w' _ v (int (cf (l[x.1]'x.2) (l[y.1]'y.2))):=hrv;cases hrv';exact he
         · match j with
           | 0=>simp at hd';subst hd';exact hrepW x
           | 1=>simp at hd';subst hd';exact hrepW y
           | j + 2 =>
             have hd2:caps[j]?=some d':=by simpa using hd'
             have:=hr j d' hd2;have e2:([enc' x,enc' y]++cb).getD (j+2) undef=cb.getD j undef:=by simp[aag]
             rw[e2];exact this.mono hsz2 (fun b hb hnM=>hoth b (hnob b hnM) hb) (fun b _ _ hf=>hf)
       have eg:∀args w,(callFunc g args).run P w=.ok (.enter g args) w:=by
         obtain⟨fn,g1,g2,g3⟩:=hg;have g3':fn.body≠none:=by intro hn;rw[hn] at g3;cases g3
         have g2' : ¬ fn.name = "runtime.NumGoroutine" := by simpa using g2
         intro args w;simp[callFunc,g1,g2',g3']
       have hcall:=hS.some enc' hone cf' hO g cb.toArray gb 0 cap d.toArray w eg hcmp hH hblk (by simpa[hdlen] using hsz);have hsd:d.toArray.size=l.length:=by simp[hdlen]
       rw[hsd] at hcall;rw[hv];refine hcall.mono fun e' w' ⟨he,dk,n,os,hperm,hsorted,hw⟩=>?_
       subst he;simp only[hd];obtain⟨hps,_,hpp⟩:=hperm;have hdks:dk.size=l.length:=by rw[hps,hsd]
       have hml:(dk.toList.map fun z=>l[z.1]'z.2)=l.mergeSort fun x y=>!decide (cf y x<0):=by
         refine A1 hirr htr htot hp ?_ ?_
         · have e0 : ∀ (a : Array {i // i < l.length}) n, n = a.size → (a.extract 0 n).toList = a.toList := by rintro a _ rfl; simp
           have e1:=e0 dk l.length hdks.symm;have e2:=e0 d.toArray l.length hsd.symm;rw[List.toList_toArray] at e2;rw[e1,e2] at hpp;have e3:(d.map fun z=>l[z.1]'z.2)=l:=by
             apply abe;intro j;rcases aaK j l.length with hj|hj
             · simp[d,hj]
             · rw[aaR (by simp[hdlen];omega),aaR hj]
           have:=hpp.map fun z=>l[z.1]'z.2
           rwa [e3] at this
         · rw [acs, abX]
           intro i j hi hj hij;have:=hsorted i j (aan _) hij (by simpa[hdks] using hj);rw[getElem!_pos dk j (by simpa using hj),getElem!_pos dk i (by simpa using hi)] at this;simpa[ltOf,cf'] using this
       rw[←hml];have hgr:w.grownBy w' (some gb):=by
         rw[hw];exact⟨rfl,rfl,rfl,by rw[fH];omega,fun k hk hne=>eQ _ _ _ _ _ _ (fun he=>hne (by rw[he])) hk⟩
       have hdrawn:w.drawn≤w'.drawn:=by rw[hw];simp[sortWorld,grow,putRow,mapBlock,Sort.ahead]
       have hhw:w'.heap[gb]?=some (.cells (putCells enc' 0 dk cur) e (0,0)):=by
         have:=jV (enc:=enc') w gb n dk os (off:=0) hh;rw[hw];exact this
       refine⟨E,ba.put ?_ (by simpa[St.cC] using hn) (bJ.tup [] [] J (fun j d hd=>by simp at hd))⟩;refine hs.cC false (fun _=>⟨rfl,.inl ⟨e,_,_,hl,rfl,by simp[hdks]⟩⟩) hnd aa (fun i hi=>⟨rfl,rfl⟩) (.inr J) (some gb) hgr (fun _=>hdrawn) (fun g' hg'=>⟨_,hl,by simp only[aaj] at hg';subst hg';simp only[bE,hv,Value.ownBlock]⟩) (fun b hb=>.inl ⟨_,hl,hb⟩) (fun rep sv=>?_);refine⟨dk.toList.map enc',⟨⟨by rw[hck];simp,.inr ⟨gb,cap,_,by rw[hv];simp[hdks],hgb,hhw,by simpa[hdks] using hnc',hcm,by rw[hck,abJ];simpa[putCells] using hcs,?_⟩⟩,hownF⟩,fun z hz=>?_,fun j d' hd'=>?_⟩
       · rw [hck]
         apply abe;intro j;simp only[aai,abJ,ab5,hdks];rw[aa1];by_cases hj:j<l.length
         · rw [if_pos hj, aaS]
           simp only[putCells,Array.getElem?_mapIdx,hcurj j hj,aa3,aan,true_and,abg,hdks,hj,if_true,ab7];rw[aap,aaS,aaM acK,aa3,getElem!_pos dk j acK]
         · rw[if_neg hj,aaR (by simp[hdks];omega)]
       · rw [aaG] at hz
         obtain⟨q,hq,rfl⟩:=hz;rw[hck,oI (hlf _)];rfl
       · have hfl2 : flat ((dk.toList.map fun z => l[z.1]'z.2).map f0) = (dk.toList.map fun z => l[z.1]'z.2).map f0 := jD fun x hx => by obtain ⟨z, _, rfl⟩ := aaG.1 hx; exact hlf z
         rw[hfl2,aap,aap] at hd';cases hz:dk.toList[j]? with
         | none=>rw[hz] at hd';cases hd'
         | some z =>
           rw[hz] at hd';simp only[aa3,aaj] at hd';subst hd';refine⟨hlf _,?_⟩;rw[aag,aap,hz];exact rep _ _ _ (hrepx z.1 z.2) acM
end
end Go.Am
namespace Go.Wc
open Go.Am Go.MapKept
abbrev NP:List (List UInt8):=[[97],[98],[99],[101],[105],[110],[115],[116],[99,104],[195,169],[65],[115,99,104],[104],[108],[195,182],[117]]
def Is (l:List Int)(start:Int)(i:Nat):cK:=⟨NP.getD ((start+i) % 16).toNat default,i,0,0,1+kN l (2+i) 9⟩
def It (l:List Int)(start:Int)(a:List cK)(i:Nat):cK :=
 if 0<i∧kN l (10+i) 3=1 then{ Is l start i with base:=(a.getD (kN l (20+i) i).toNat default).base,mark:=kN l (30+i) 4,cap:=kN l (40+i) 2 } else Is l start i
def mv (l:List Int)(start:Int):Nat→List cK
 | 0=>[]
 | i+1=>mv l start i++[It l start (mv l start i) i]
def ar (l:List Int):List cK:=mv l (kN l 1 16) (3+kN l 0 6).toNat
theorem oX (l:List Int)(start:Int):∀i,(mv l start i).length=i
 | 0=>rfl
 | i+1=>by simp[mv,oX l start i]
theorem NQ {l:List Int}{n:Int}:l.take (if n<(l.length:Int) then n else(l.length:Int)).toNat=l.take n.toNat:=by
 split
 ·rfl
 ·rw[abC,abj,aaB acK]
abbrev aS:List cK:=[⟨[97],0,0,0,5⟩,⟨[98],1,0,0,6⟩,⟨[99],2,0,0,5⟩,⟨[101],3,0,0,5⟩,⟨[110],4,0,0,6⟩,⟨[115],5,0,0,4⟩,⟨[116],6,0,0,3⟩,⟨[99,104],7,0,0,10⟩,⟨[195,169],3,1,0,5⟩,⟨[65],0,0,1,7⟩]
end Go.Wc
namespace Go.Wb
open Go.Am
def De (x:Rx)(l:List Rx):Nat:=l.findIdx fun y=>!decide (df y x<0)
def ql (l:List Rx)(x:Rx):List Rx:=if De x l<l.length∧df (l.getD (De x l) default) x=0 then l else l.take (De x l)++[x]++l.drop (De x l)
variable{x:Rx}{l:List Rx}{i:Nat}
theorem NR (hi:i≤l.length)(h1:∀k,k<i→df (l.getD k default) x<0)(h2:i<l.length→¬df (l.getD i default) x<0):De x l=i:=by
 rcases aaK i l.length with h|h
 ·refine(List.findIdx_eq h).2 ⟨?_,fun j hj=>?_⟩
  ·have:=h2 h;rw[dp h] at this;simp[this]
  ·have:=h1 j hj;rw[dp acK] at this;simp[this]
 ·have hi':i=l.length:=acK;subst hi';refine List.findIdx_eq_length.2 fun x' hx=>?_
  obtain⟨j,hj,e⟩:=abd hx;have:=h1 j hj;rw[dp hj,e] at this;simp[this]
theorem Kf (hi:i<l.length)(h1:∀k,k<i→df (l.getD k default) x<0)(h2:df (l.getD i default) x=0):ql l x=l:=by have e:=NR (x:=x) (l:=l) (i:=i) acK h1 (fun _=>by omega);unfold ql;rw[e,if_pos ⟨hi,h2⟩]
theorem NS (hi:i≤l.length)(h1:∀k,k<i→df (l.getD k default) x<0)(h2:i<l.length→¬df (l.getD i default) x<0)(h3:i<l.length→¬df (l.getD i default) x=0) :
  ql l x=l.take i++[x]++l.drop i:=by
 have e:=NR hi h1 h2;unfold ql;rw[e,if_neg fun q=>h3 q.1 q.2]
theorem TE (x:Rx)(l:List Rx):De x l≤l.length:=List.findIdx_le_length
theorem TF {k:Nat}(h:k<De x l):df (l.getD k default) x<0:=by have h1:=TE x l;have h2:=List.not_of_lt_findIdx (p:=fun y=>!decide (df y x<0)) (xs:=l) h;rw[dp acK];simpa using h2
theorem TG (h:De x l<l.length):¬df (l.getD (De x l) default) x<0:=by have h2:=List.findIdx_getElem (p:=fun y=>!decide (df y x<0)) (xs:=l) (w:=h);have e:l.getD (De x l) default=l[l.findIdx fun y=>!decide (df y x<0)]:=dp h;rw[e];simpa using h2
variable{y:Rx}
theorem yu :y∈ql l x↔y∈l∨y=x:=by
 unfold ql;split
 · next h=>exact⟨.inl,fun q=>q.elim id fun e=>by rw[e,←iG _ _ h.2];exact aQ h.1⟩
 · rw [aaU, aaU, aay]
   constructor
   · rintro ((h | h) | h)
     · exact .inl (abv h)
     · exact .inr h
     · exact .inl (aa0 h)
   · rintro (h | h)
     · rw [← abn (De x l) l, aaU] at h
       exact h.elim (fun h=>.inl (.inl h)) .inr
     · exact .inl (.inr h)
theorem Cu :rz x y=true∧x≠y↔df x y<0:=by
 rw[oQ];constructor
 ·rintro⟨h,hn⟩;rcases Int.lt_or_eq_of_le h with h|h
  ·exact h
  ·exact absurd (iG _ _ h) hn
 ·exact fun h=>⟨acK,fun e=>by rw[e] at h;exact x3 _ h⟩
theorem yv (hs:qa rz l):qa rz (ql l x):=by
 unfold ql;split
 ·exact hs
 ·next hq =>
  have hlow:∀a∈l.take (De x l),df a x<0:=fun a ha=>by
   obtain⟨j,hj,_,rfl⟩:=rN ha;exact TF hj
  have hhigh:∀a∈l.drop (De x l),df x a<0:=fun a ha=>by
   obtain⟨j,hj,e⟩:=abd ha;rw[aaw] at hj;have h0:De x l<l.length:=acK;have h1:=TG h0;have h2:¬df (l.getD (De x l) default) x=0:=fun q=>hq ⟨h0,q⟩
   have h3:df x (l.getD (De x l) default)<0:=by have:=kX (l.getD (De x l) default) x;omega
   rw[List.getElem_drop,←dp acK] at e;rw[←e];by_cases hj0:j=0
   ·rw[hj0,Nat.add_zero];exact h3
   ·exact kC _ _ _ h3 (Cu.1 (jG hs acK acK))
  have hs':=hs;unfold qa at hs' ⊢;rw[aaY,List.pairwise_append];refine⟨List.Pairwise.take hs',?_,?_⟩
  ·rw[List.singleton_append,aa2];exact⟨fun a ha=>Cu.2 (hhigh a ha),List.Pairwise.drop hs'⟩
  ·intro a ha b hb;rw[List.singleton_append] at hb;rcases aaC.1 hb with rfl|hb
   ·exact Cu.2 (hlow a ha)
   ·exact Cu.2 (kC _ _ _ (hlow a ha) (hhigh b hb))
def mY (o:List Rx)(x:Rx):List Rx:=if x.kind=1 then o else if 2<x.kind then ql o x else o
def mw (L:List Rx):List Rx:=L.foldl mY []
def yw (b:Bool)(x:Rx):Bool:=if x.kind=1 then b else if 2<x.kind then b||cO x else b
def my (L:List Rx):Bool:=L.foldl yw false
def rD (L:List Rx):Bool:=L.any fun x=>decide (x.kind=1)
def Pr (L:List Rx)(v:Nat):Bool:=L.any fun x=>x.syms.any fun z=>decide (z=v)
def fK (L:List Rx)(n:Nat):List Int:=((List.range n).filter (Pr L)).map fun v:Nat=>(v:Int)
def mz (L:List Rx):List Rx:=if 0<(fK L 64).length then ql (mw L) (.mk 2 (fK L 64) []) else mw L
def mZ (L:List Rx):List Rx:=if rD L=true∧my L=false then ql (mz L) eG else mz L
def qm (l:List Rx):Rx:=wo (mZ (aX l))
theorem jt {α β:Type} [Inhabited β]{f:α→β→α}{a:α}{l:List β}(h:i<l.length):(l.take (i+1)).foldl f a=f ((l.take i).foldl f a) (l.getD i default):=by rw[bD h,abB];rfl
theorem A6:∀ (L o:List Rx),qa rz o→qa rz (L.foldl mY o)∧∀y,y∈L.foldl mY o↔y∈o∨(y∈L∧2<y.kind)
 | [],o,h=>⟨h,fun y=>⟨.inl,fun q=>q.elim id fun q=>by cases q.1⟩⟩
 | x :: L, o, h => by
   have h1:qa rz (mY o x):=by unfold mY;split;exact h;split;exact yv h;exact h
   obtain⟨h2,h3⟩:=A6 L (mY o x) h1;refine⟨h2,fun y=>(h3 y).trans ?_⟩;have h4:y∈mY o x↔y∈o∨(y=x∧2<x.kind):=by
     unfold mY;split
     · exact⟨.inl,fun q=>q.elim id fun q=>acK⟩
     · split
       · next hk=>rw[yu];exact or_congr_right ⟨fun e=>⟨e,hk⟩,fun e=>e.1⟩
       · next hk=>exact⟨.inl,fun q=>q.elim id fun q=>absurd q.2 hk⟩
   rw[h4,aaC];constructor
   · rintro ((q | ⟨rfl, q⟩) | ⟨q, q2⟩)
     · exact .inl q
     · exact .inr ⟨.inl J,q⟩
     · exact .inr ⟨.inr q,q2⟩
   · rintro (q | ⟨rfl | q, q2⟩)
     · exact .inl (.inl q)
     · exact .inl (.inr ⟨rfl,q2⟩)
     · exact .inr ⟨q,q2⟩
theorem A7:∀ (L:List Rx)(b:Bool),L.foldl yw b=true↔b=true∨∃x∈L,2<x.kind∧cO x=true
 | [],b=>⟨.inl,fun q=>q.elim id fun⟨x,hx,_⟩=>by cases hx⟩
 | x :: L, b => by
   rw[ab4,A7 L];have h:yw b x=true↔b=true∨(2<x.kind∧cO x=true):=by
     unfold yw;split
     · exact⟨.inl,fun q=>q.elim id fun q=>acK⟩
     · split
       · next hk=>rw[aba];exact or_congr_right ⟨fun e=>⟨hk,e⟩,fun e=>e.2⟩
       · next hk=>exact⟨.inl,fun q=>q.elim id fun q=>absurd q.1 hk⟩
   rw[h];constructor
   · rintro ((q | q) | ⟨y, hy, q⟩)
     · exact .inl q
     · exact .inr ⟨x,aaq,q⟩
     · exact .inr ⟨y,aav _ hy,q⟩
   · rintro (q | ⟨y, hy, q⟩)
     · exact .inl (.inl q)
     · rcases aaC.1 hy with rfl | hy
       · exact .inl (.inr q)
       · exact .inr ⟨y,hy,q⟩
theorem Kg (L:List Rx)(n:Nat):qa FW (fK L n):=by unfold fK qa;rw[acs];refine acH (fun{a b} h=>⟨decide_eq_true acK,acK⟩) (List.Pairwise.filter _ (List.pairwise_lt_range (n:=n)))
theorem Kh {L:List Rx}{n:Nat}{z:Int}:z∈fK L n↔(0≤z∧z<n)∧∃x∈L,z∈x.syms:=by
 unfold fK Pr;rw[aaG];constructor
 ·rintro⟨v,hv,rfl⟩;rw[aa9,aaI,aaQ] at hv;obtain⟨h1,x,hx,h2⟩:=hv;obtain⟨z,hz,e⟩:=aaQ.1 h2;exact⟨acK,x,hx,by rw[←of_decide_eq_true e];exact hz⟩
 ·rintro⟨h,x,hx,hz⟩;refine⟨z.toNat,aa9.2 ⟨aaI.2 acK,aaQ.2 ⟨x,hx,aaQ.2 ⟨z,hz,decide_eq_true acK⟩⟩⟩,acK⟩
theorem NT (h:Nf x){z:Int}(hz:z∈x.syms):x.kind=2:=by cases h<;>first|rfl|cases hz
theorem wW (h:∀x∈l,Nf x):qm l=gW l:=by
 have hL:∀y∈aX l,Nf y∧y.kind≠4:=fun y hy=>tq h hy
 have hz:∀z,z∈fK (aX l) 64↔z∈c8 l:=fun z=>by
   rw[Kh,k7];constructor
   · rintro ⟨_, x, hx, hz⟩
     exact⟨x,hx,NT (hL x hx).1 hz,hz⟩
   · rintro ⟨x, hx, hk, hz⟩
     have:=Ia h (k7.2 ⟨x,hx,hk,hz⟩);exact⟨acK,x,hx,hz⟩
 have hs:fK (aX l) 64=uH (c8 l):=qZ uG (Kg _ _) (qd _) fun z=>by rw[hz,k6]
 have h0:0<(fK (aX l) 64).length↔0<(c8 l).length:=by
   rw[abA,abA];exact exists_congr hz
 obtain⟨h1,h2⟩:=A6 (aX l) [] List.Pairwise.nil;have h3 : qa rz (mz (aX l)) ∧ ∀ y, y ∈ mz (aX l) ↔ y ∈ dW l ∧ y.kind ≠ 1 := by
   have hD:∀y,(y∈aX l∧2<y.kind∨(0<(c8 l).length∧y=.mk 2 (uH (c8 l)) []))↔y∈dW l∧y.kind≠1:=fun y=>by
     rw[j4,j3,gC,il];constructor
     · rintro (⟨q1, q2⟩ | ⟨q1, rfl⟩)
       · exact⟨.inl ⟨q1,acK,acK⟩,acK⟩
       · exact⟨.inr ⟨q1,rfl⟩,by show ¬(2:Int)=1;decide⟩
     · rintro ⟨⟨q1, q2, q3⟩ | ⟨q1, rfl⟩, q4⟩
       · have := (hL y q1).1.kinds
         exact .inl ⟨q1,acK⟩
       · exact .inr ⟨q1,rfl⟩
   unfold mz;by_cases q:0<(fK (aX l) 64).length
   · rw [if_pos q]
     refine⟨yv h1,fun y=>?_⟩;rw[←hD,yu,show(y∈mw (aX l))↔_ from h2 y,hs];constructor
     · rintro ((q1 | q1) | q1)
       · cases q1
       · exact .inl q1
       · exact .inr ⟨h0.1 q,q1⟩
     · rintro (q1 | q1)
       · exact .inl (.inr q1)
       · exact .inr q1.2
   · rw [if_neg q]
     refine⟨h1,fun y=>?_⟩;rw[←hD,show(y∈mw (aX l))↔_ from h2 y];constructor
     · rintro (q1 | q1)
       · cases q1
       · exact .inl q1
     · rintro (q1 | q1)
       · exact .inr q1
       · exact absurd (h0.2 q1.1) q
 have hn:=fun x (hx:x∈dW l)=>wO h (y:=x) hx
 have h4 : qa rz (mZ (aX l)) ∧ ∀ y, y ∈ mZ (aX l) ↔ y ∈ kg (dW l) := by
   have hC:∀y,y∈kg (dW l)↔_:=fun y=>Ny (qb _) (fun x hx=>⟨(hn x hx).1,(hn x hx).2.1⟩)
   have hO:my (aX l)=true↔∃y∈dW l,y.kind≠1∧cO y=true:=by
     rw[show(my (aX l)=true)↔_ from A7 (aX l) false];constructor
     · rintro (q | ⟨x, hx, hk, ha⟩)
       · cases q
       · exact⟨x,by rw[j4,j3,gC,il];exact .inl ⟨hx,acK,acK⟩,acK,ha⟩
     · rintro ⟨y, hy, hk, ha⟩
       rw[j4,j3,gC,il] at hy;rcases hy with⟨q1,q2,q3⟩|⟨q1,rfl⟩
       · have := (hL y q1).1.kinds
         exact .inr ⟨y,q1,acK,ha⟩
       · rw [qR, if_neg (by show ¬ (2 : Int) = 3; decide), if_neg (by show ¬ (2 : Int) = 4; decide)] at ha
         exact absurd (of_decide_eq_true ha) (by show ¬((2:Int)=1∨(2:Int)=5);decide)
   have hE:rD (aX l)=true↔eG∈dW l:=by
     unfold rD;rw[aaQ,j4,j3,gC,il];constructor
     · rintro ⟨x, hx, hk⟩
       rw[←(hL x hx).1.k1 (of_decide_eq_true hk)];have:=of_decide_eq_true hk;exact .inl ⟨hx,acK,acK⟩
     · rintro (⟨q, _⟩ | ⟨_, q⟩)
       · exact⟨_,q,decide_eq_true J⟩
       · injection q with q;exact absurd q acM
   have h1':∀y∈dW l,y.kind=1→y=eG:=fun y hy hk=>(hn y hy).1.k1 hk
   unfold mZ;by_cases q:rD (aX l)=true∧my (aX l)=false
   · rw [if_pos q]
     refine⟨yv h3.1,fun y=>?_⟩;rw[yu,h3.2,hC];constructor
     · rintro (q1 | rfl)
       · exact⟨q1.1,fun q2=>q1.2 q2.1⟩
       · exact⟨hE.1 q.1,fun q2=>by rw[hO.2 q2.2] at q;cases q.2⟩
     · rintro ⟨q1, q2⟩
       by_cases hk:y.kind=1
       · exact .inr (h1' y q1 hk)
       · exact .inl ⟨q1,hk⟩
   · rw [if_neg q]
     refine⟨h3.1,fun y=>?_⟩;rw[h3.2,hC];constructor
     · exact fun q1=>⟨q1.1,fun q2=>q1.2 q2.1⟩
     · rintro ⟨q1, q2⟩
       refine⟨q1,fun hk=>?_⟩;have he:rD (aX l)=true:=hE.2 (by rw[←h1' y q1 hk];exact q1);cases ho:my (aX l) with
       | true=>exact q2 ⟨hk,hO.1 ho⟩
       | false=>exact q ⟨he,ho⟩
 have h5:qa rz (kg (dW l)):=(Cb (qb _) hn fun x hx y hy=>yb (l:=l) hx hy).2.1;unfold qm gW;rw[qZ x4 h4.1 h5 h4.2]
theorem NU (h:Nf y)(hk:y.kind≠0∧y.kind≠4):gW [y]=y:=by
 have hm:∀x∈[y],x=y:=fun x hx=>aay.1 hx
 unfold gW;rw[AR (l:=[y]) (fun x hx=>by rw[hm x hx];exact h) (fun x hx=>by rw[hm x hx];exact hk) (abR _ _) (fun x hx z hz _ _=>by rw[hm x hx,hm z hz]),mn (fun q=>absurd q.1 (by simp)),Ca rfl];rfl
def rQ (x:Rx):Rx:=if x.kind=0∨x.kind=1 then eG else if x.kind=5 then x else .mk 5 [] [if x.kind=4 then qm (x.kids.filter fun y=>!decide (y.kind=1)) else x]
theorem EF  (h:Nf x):rQ x=lA x:=by
 unfold rQ;by_cases h01:x.kind=0∨x.kind=1
 · rw[if_pos h01,wI h01]
 · rw [if_neg h01]
   by_cases h5:x.kind=5
   · rw[if_pos h5,wJ h5]
   · rw [if_neg h5, oR h01 h5]
     by_cases h4:x.kind=4
     · rw [if_pos h4]
       obtain⟨e,h2,hn,hk4,hs,ht,ha⟩:=h.k4 h4;rw[wW fun y hy=>hn y (aa9.1 hy).1];have hself:∀l:List Rx,2≤l.length→l.Sublist x.kids→gW l=.mk 4 [] l:=fun l hl hsub =>
         AS hl (fun y hy=>hn y (hsub.subset hy)) (fun y hy=>hk4 y (hsub.subset hy)) (List.Pairwise.sublist hsub hs) (fun y hy z hz=>ht y (hsub.subset hy) z (hsub.subset hz))
           fun y hy hy1 z hz=>ha y (hsub.subset hy) hy1 z (hsub.subset hz)
       by_cases q:(x.kids.getD 0 default).kind=1
       · have hf : x.kids.filter (fun y => !decide (y.kind = 1)) = x.kids.drop 1 := by
           match hk:x.kids,h2 with
           | y :: l, _ =>
             rw[hk] at q hs hn hk4;rw[ab2 (by have:y.kind=1:=q;simp[this])];show l.filter _=l;refine acx.2 fun z hz=>?_
             have h6:=nR hs (x:=z) hz;have h7:¬z.kind=1:=fun hz1=>h6.1 (e6 hs (fun x hx=>⟨hn x hx,(hk4 x hx).1⟩) h6.2 hz1).symm
             simp[h7]
         rw[hf];by_cases q2:x.kids.length=2
         · rw [wL ⟨h4, q⟩ q2]
           have hl:x.kids.drop 1=[x.kids.getD 1 default]:=by rw[drop_cons acK,abh acK]
           have hm:x.kids.getD 1 default∈x.kids:=aQ acK;rw[hl];have h8:=tu (hn _ hm);have h9:qm [x.kids.getD 1 default]=gW [x.kids.getD 1 default]:=wW fun y hy=>by rw[aay.1 hy];exact hn _ hm
           rw[NU (hn _ hm) (hk4 _ hm)]
         · rw [wM ⟨h4, q⟩ q2, hself _ (by rw [aaw]; omega) (List.drop_sublist _ _), h4]
           have es:x.syms=[]:=by rw[e];rfl
           rw[es]
       · rw [qY fun p => q p.2]
         have hf:x.kids.filter (fun y=>!decide (y.kind=1))=x.kids:=by
           refine acx.2 fun z hz=>?_
           have h7:¬z.kind=1:=fun hz1=>q (by rw[e6 hs (fun x hx=>⟨hn x hx,(hk4 x hx).1⟩) hz hz1];exact hz1)
           simp[h7]
         rw[hf,hself _ h2 (List.Sublist.refl _),←e]
     · rw[if_neg h4,qY fun p=>h4 p.1]
theorem sr (l:List Rx)(x:Rx):Rx.aB (ql l x)≤Rx.aB l+x.size:=by
 unfold ql;split
 ·omega
 ·have:=jh l (De x l);rw[ee,ee,Rx.aB,Rx.aB];omega
theorem yx:∀ (L o:List Rx),Rx.aB (L.foldl mY o)≤Rx.aB o+Rx.aB L
 | [],o=>by rw[List.foldl_nil,Rx.aB];omega
 | x :: L, o => by
   have h1:=yx L (mY o x);have h2:Rx.aB (mY o x)≤Rx.aB o+x.size:=by
     have:=sr o x;unfold mY;split
     · omega
     · split<;>omega
   rw[ab4,Rx.aB];omega
theorem uU (L:List Rx):Rx.aB (mw L)≤Rx.aB L:=by have:=yx L [];rw[show Rx.aB []=0 from rfl,abg] at this;exact this
theorem uV (L:List Rx)(n:Nat):(fK L n).length≤n:=by unfold fK;rw[aai];exact aaO (abx _ _) (by rw[aaA];exact aak _)
theorem yy (L:List Rx):Rx.aB (mz L)≤Rx.aB L+65:=by have h1:=uU L;have h2:=sr (mw L) (.mk 2 (fK L 64) []);have h3:=uV L 64;rw[eH,Rx.aB] at h2;unfold mz;split<;>omega
theorem GS (L:List Rx):Rx.aB (mZ L)≤Rx.aB L+66:=by have h1:=yy L;have h2:=sr (mz L) eG;rw[show(eG).size=1 from rfl] at h2;unfold mZ;split<;>omega
section
variable {L:List Rx}{j k v:Nat}
theorem TH (h:j<L.length)(hk:(L.getD j default).kind=1):mw (L.take (j+1))=mw (L.take j):=by unfold mw;rw[jt h];exact if_pos hk
theorem NV (h:j<L.length)(hk:2<(L.getD j default).kind):mw (L.take (j+1))=ql (mw (L.take j)) (L.getD j default):=by unfold mw;rw[jt h];unfold mY;rw[if_neg acK,if_pos hk]
theorem TI (h:j<L.length)(hk:¬(L.getD j default).kind=1)(h2:¬2<(L.getD j default).kind):mw (L.take (j+1))=mw (L.take j):=by unfold mw;rw[jt h];unfold mY;rw[if_neg hk,if_neg h2]
theorem TJ (h:j<L.length)(hk:(L.getD j default).kind=1):my (L.take (j+1))=my (L.take j):=by unfold my;rw[jt h];exact if_pos hk
theorem TK (h:j<L.length)(hk:2<(L.getD j default).kind)(ho:my (L.take j)=true):my (L.take (j+1))=true:=by unfold my at ho ⊢;rw[jt h,ho];unfold yw;rw[if_neg acK,if_pos hk];rfl
theorem TL (h:j<L.length)(hk:2<(L.getD j default).kind)(ho:my (L.take j)=false):my (L.take (j+1))=cO (L.getD j default):=by unfold my at ho ⊢;rw[jt h,ho];unfold yw;rw[if_neg acK,if_pos hk];rfl
theorem TM (h:j<L.length)(hk:¬(L.getD j default).kind=1)(h2:¬2<(L.getD j default).kind):my (L.take (j+1))=my (L.take j):=by unfold my;rw[jt h];unfold yw;rw[if_neg hk,if_neg h2]
theorem TN (h:j<L.length)(hk:(L.getD j default).kind=1):rD (L.take (j+1))=true:=by unfold rD;rw[bD h,acr,List.any_cons,decide_eq_true hk,Bool.true_or,Bool.or_true]
theorem GU (h:j<L.length)(hk:¬(L.getD j default).kind=1):rD (L.take (j+1))=rD (L.take j):=by unfold rD;rw[bD h,acr,List.any_cons,decide_eq_false hk,List.any_nil,Bool.or_false,Bool.or_false]
def py (L:List Rx)(j k v:Nat):Bool:=Pr (L.take j) v||((L.getD j default).syms.take k).any fun z=>decide (z=(v:Int))
theorem Qp:py L j 0=Pr (L.take j):=by funext v;unfold py;simp
theorem NW (h:j<L.length)(hk:(L.getD j default).syms.length≤k):Pr (L.take (j+1))=py L j k:=by
 funext v;unfold py;rw[aaB hk]
 show List.any _ _=(List.any _ _||_);rw[bD h,acr,List.any_cons,List.any_nil,Bool.or_false]
theorem GV (h:k<(L.getD j default).syms.length)(v:Nat):py L j (k+1) v=(py L j k v||decide ((L.getD j default).syms.getD k default=(v:Int))):=by unfold py;rw[bD h,acr,List.any_cons,List.any_nil,Bool.or_false,Bool.or_assoc]
def ix (f:Nat→Bool):List SV:=(List.range 64).map fun v=>vvw (bool (f v))
theorem oY (f:Nat→Bool):(ix f).length=64:=by unfold ix;rw[aai,aaA]
theorem ss {f:Nat→Bool}(h:v<64):(ix f)[v]?=some (vvw (bool (f v))):=by unfold ix;rw[aap,abr h];rfl
theorem Ki {f:Nat→Bool}(h:v<64):(ix f)[0+(v:Int).toNat]?=some (vvw (bool (f v))):=by rw[show 0+(v:Int).toNat=v by omega];exact ss h
theorem EG (id:Nat)(f:Nat→Bool):c5 id (ix f)=ix f:=by unfold c5 ix;rw[aco];rfl
theorem EH (id:Nat)(h:k<(L.getD j default).syms.length)(hz:0≤(L.getD j default).syms.getD k default∧(L.getD j default).syms.getD k default<64) :
  rH (c5 id (ix (py L j k))) (0+((L.getD j default).syms.getD k default).toNat) [vvw (bool true)]=ix (py L j (k+1)):=by
 rw[EG];refine abe fun n=>?_
 rw[fA (by rw[oY];simp only[aaZ];omega)];rcases aaK n 64 with hn|hn
 ·rw[ss hn,ss hn,GV h];split
  ·next q =>
   rw[aaZ] at q;have e:n=((L.getD j default).syms.getD k default).toNat:=acK;rw[show n-(0+((L.getD j default).syms.getD k default).toNat)=0 by omega,decide_eq_true (show(L.getD j default).syms.getD k default=(n:Int) by omega),Bool.or_true];rfl
  ·next q =>
   rw[aaZ] at q;rw[decide_eq_false (show ¬(L.getD j default).syms.getD k default=(n:Int) by omega),Bool.or_false]
 ·rw[if_neg (by simp only[aaZ];omega),aaR (by rw[oY];exact hn),aaR (by rw[oY];exact hn)]
theorem Qq (h:Pr L v=true):fK L (v+1)=fK L v++[(v:Int)]:=by unfold fK;rw[aa8,abq,ack h,aas];rfl
theorem Qr (h:Pr L v=false):fK L (v+1)=fK L v:=by unfold fK;rw[aa8,abq,ab2 (by rw[h];decide),abV,aaP]
theorem Qs (h:0<(fK L 64).length):mz L=ql (mw L) (.mk 2 (fK L 64) []):=if_pos h
theorem Qt (h:¬0<(fK L 64).length):mz L=mw L:=if_neg h
theorem Qu (h:rD L=true)(h2:my L=false):mZ L=ql (mz L) eG:=if_pos ⟨h,h2⟩
theorem Qv (h:rD L=false):mZ L=mz L:=if_neg fun q=>by rw[h] at q;cases q.1
theorem Qw (h:my L=true):mZ L=mz L:=if_neg fun q=>by rw[h] at q;cases q.2
end
def sw (x:Rx):Rx:=if x.kind=4 then qm (x.kids.filter fun y=>!decide (y.kind=1)) else x
theorem NX (h:x.kind=4):sw x=qm (x.kids.filter fun y=>!decide (y.kind=1)):=if_pos h
theorem NY (h:¬x.kind=4):sw x=x:=if_neg h
theorem Qx (h:x.kind=0∨x.kind=1):rQ x=eG:=if_pos h
theorem Qy (h:¬(x.kind=0∨x.kind=1))(h5:x.kind=5):rQ x=x:=by unfold rQ;rw[if_neg h,if_pos h5]
theorem Qz (h:¬(x.kind=0∨x.kind=1))(h5:¬x.kind=5):rQ x=.mk 5 [] [sw x]:=by unfold rQ;rw[if_neg h,if_neg h5];rfl
theorem TO {p:Rx→Bool}(h:i<l.length)(hp:p (l.getD i default)=true):(l.take (i+1)).filter p=(l.take i).filter p++[l.getD i default]:=by rw[bD h,abq,ack hp];rfl
theorem TP {p:Rx→Bool}(h:i<l.length)(hp:p (l.getD i default)=false):(l.take (i+1)).filter p=(l.take i).filter p:=by rw[bD h,abq,ab2 (by rw[hp];decide),abV,aaP]
abbrev NZ (y:Rx):Bool:=!decide (y.kind=1)
theorem Vd (h:¬y.kind=1):NZ y=true:=by simp[h]
theorem Ve (h:y.kind=1):NZ y=false:=by simp[h]
theorem oZ (p:Rx→Bool)(l:List Rx):Rx.aB (l.filter p)≤Rx.aB l:=kL List.filter_sublist
theorem Nf.kids (h:Nf x)(hy:y∈x.kids):Nf y:=by
 cases h with
 | none=>cases hy
 | empty=>cases hy
 | set h=>cases hy
 | seq h1 h2 h3=>exact h2 y hy
 | alt h1 h2 h3 h4 h5 h6=>exact h2 y hy
 | star h1 h2 h3=>rw[aay.1 hy];exact h1
def vN (t:Bool)(r:Rx):List Rx:=if t=true∧r.kind=3 then(r.kids.map (aL t)).reverse else r.kids.map (aL t)
theorem Iu (t:Bool)(r:Rx):(vN t r).length=r.kids.length:=by unfold vN;split<;>simp
variable{t:Bool}{r:Rx}
theorem Vf {k:Nat}(ht:t=true)(h3:r.kind=3)(hi:i<r.kids.length)(hk:(k:Int)=(r.kids.length:Int)-1-i):(vN t r).getD i default=aL t (r.kids.getD k default):=by unfold vN;rw[if_pos ⟨ht,h3⟩,aag,List.getElem?_reverse (by rw[aai];exact hi),aai,aap,←show k=r.kids.length-1-i by omega,aal (show k<r.kids.length by omega),aa3,ace,dp acK]
theorem Vg (h:¬(t=true∧r.kind=3))(hi:i<r.kids.length):(vN t r).getD i default=aL t (r.kids.getD i default):=by unfold vN;rw[if_neg h,getD_map hi]
theorem Kj (t:Bool)(r:Rx):Rx.aB (vN t r)≤2*Rx.aB r.kids:=by
 have:=vH t r.kids;unfold vN;split
 ·rw[q7];exact this
 ·exact this
theorem Cv (hv:aR r=true):∀x∈vN t r,Nf x:=fun x hx=>by
 have:x∈r.kids.map (aL t):=by
  unfold vN at hx;split at hx
  ·exact List.mem_reverse.1 hx
  ·exact hx
 obtain⟨y,hy,rfl⟩:=aaG.1 this;exact qg t y (im hv y hy)
theorem Yd (h:r.kind=3):aL t r=cU (vN t r):=by
 unfold vN;cases t with
 | true=>rw[if_pos ⟨rfl,h⟩];exact nQ h
 | false=>rw[if_neg (fun q=>by cases q.1)];exact lW h
theorem Ye (hv:aR r=true)(h:r.kind=4):aL t r=qm (vN t r):=by rw[wW (Cv hv)];unfold vN;rw[if_neg fun q=>acK];exact kY h
theorem Yf (hv:aR r=true)(h:r.kind=5):aL t r=rQ ((vN t r).getD 0 default):=by have hl:=(lL hv h).2;rw[EF (Cv hv _ (aQ (by rw[Iu];omega)))];unfold vN;rw[if_neg fun q=>acK];exact kZ h
theorem Yg (hv:aR r=true)(h3:¬r.kind=3)(h4:¬r.kind=4)(h5:¬r.kind=5):aL t r=r:=by
 rw[j2 h3 h4 h5];have hk:=qf hv;have:r.kids=[]:=by
  by_cases h2:r.kind=2
  ·rw[mi h2,aax] at hv;exact aaD (of_decide_eq_true hv.1)
  ·rw[jE acK,aax] at hv;exact aaD (of_decide_eq_true hv.2)
 rw[←this,←Rx.eta]
end Go.Wb
namespace Go.Am
open Go.RowKit
section
variable {P:Program} {w0:Fr}{M0:Nat→Prop}{o:Oper}{ρ:Operand→Option SV}{ob:List (Nat×Ob)}{x y:Operand}{T e:TypeId}{id off k:Nat}{cs:List SV}
theorem kO {caps:List qI}(ho:o.op=.load T x)(hT:bo P T=some true)(hk:bY P T=some k)(hx:ρ x=some (.pbox id off))(hl:ob.lookup id=some (.box e cs))(hle:Nat.ble (off+k) cs.length=true)(hv:(cs.drop off).take k=caps.map qI.sv) :
   Pure P w0 M0 o ρ ob (.hid DX caps) :=
 aD fun E w ev hw h=>by
   have hr:=h x _ hx e cs hl;have hle':=aah hle;obtain⟨vals,h1,h2,h3,h4⟩:=hw.objs id _ hl;have hcell:=run_loadCells (P:=P) w ⟨E.blk id,off,none⟩ k (fun j=>vals.getD (off+j) undef) (fun j hj=>by
     rw[Addr.add_lit,cell_of_row w _ (off+j) _ e (0,0) h1];have:off+j<vals.length:=acK;simp[aag,aal this])
   have hcl:caps.length=k:=by
     have:=congrArg List.length hv;simp only[aau,aaw,aai] at this;omega
   have e1:(List.range k).map (fun j=>vals.getD (off+j) undef)=(vals.drop off).take k:=by
     apply abe;intro j;simp only[aap,aa1,abE];rcases aaK j k with hj|hj
     · rw [if_pos hj]
       have:off+j<vals.length:=acK;simp[hj,aag,aal this]
     · rw[if_neg acK];simp;omega
   refine⟨.agg ((vals.drop off).take k).toArray,w,?_,.refl _ _,(vals.drop off).take k,rfl,by rw[hcl];simp;omega,fun j c hc=>?_⟩
   · simp only[execOp,ho,hr,Instr.loadAt,Instr.sureAddr,loadVar,Sem.run_bind,dj hT,dt hk,Result.andThen_ok,Sem.run_pure,if_true,hcell,e1]
   · have hd : ((cs.drop off).take k)[j]? = some c.sv := by rw [hv, aap, hc]; rfl
     rw[aa1] at hd;split at hd
     · rename_i hj
       rw[abE] at hd;have h5:=(h4 _ _ hd).2.2;have e2:((vals.drop off).take k).getD j undef=vals.getD (off+j) undef:=by
         rw[aag,aa1,if_pos hj,abE,←aag]
       rw[e2];cases c with
       | bx i=>exact h5
       | pl d=>exact h5
       | ow i=>exact h5
       | om i=>exact h5
     · cases hd
theorem kP {cx:Operand}{ats:Array TypeId}{c c' c2:fW}{f:FuncId}{caps:List qI}{ds:List AV}{d:AV}{r:AV}
   (ho:o.op=.call { callee:=.value cx,args:=#[x,y],argTypes:=ats })(hc:ρ cx=some (.v c (.clo f [])))(hx:ρ x=some (.hid DX caps))(ha:jA ob (caps.map qI.sv)=some (c',ds))(hy:viewAt ρ ob y=some (c2,d))(h:ak P f [.agg ds,d] (.p r))
   (aa:∀b,M0 b→b<w0.w.heap.size):Pure P w0 M0 o ρ ob (.v .pl r):=by
 intro E w ev hw hh;have hcv:=hh cx _ hc;simp only[bm] at hcv;obtain⟨vs,hvx,hvl,hvc⟩:=hh x _ hx;obtain⟨g1,g2⟩:=lF hw (caps.map qI.sv) vs c' ds (by rw[hvl,aai]) (fun j sv hd=>by
   rw[aap] at hd;cases hq:caps[j]? with
   | none=>rw[hq] at hd;cases hd
   | some q =>
     rw[hq] at hd;simp only[aa3,aaj] at hd;subst hd;have:=hvc j q hq;cases q with
     | bx i=>exact this
     | pl d=>exact this
     | ow i=>exact this
     | om i=>exact this) ha
 have hyv:=cz hw hh hy;generalize hq:ev cx=q at hcv;cases hcv with
 | clo _ vs' _ hn hr =>
   have hn0:vs'=[]:=aaD hn;subst hn0;unfold sQ;rw[fE ho hq h.1];refine⟨rfl,?_⟩;have hall:=h.2 w [ev x,ev y] rfl (fun j d' hd=>?_)
   · have e1 : [ev x, ev y].toArray = (#[x, y] : Array Operand).map ev ++ ([] : List Value).toArray := by apply ab1; simp
     rw[e1] at hall;refine hall.mono fun e w' ⟨v,he,hb,hrv⟩=>⟨v,he,hb.to,?_⟩
     have hrep:=hrv.rep (fun b hb=>hb);refine hrep.cd fun b hb'=>?_
     rcases hb' with hb'|hb'
     · have:=aa b hb';have:=hw.below.size;omega
     · exact(hw.bF hb').2
   · match j with
     | 0 =>
       simp only[aaN,aaj] at hd;subst hd;show bJ w (fun _=>False) (ev x) (.agg ds);have hvx':ev x=.agg vs.toArray:=hvx;rw[hvx'];exact .agg vs ds (by rw[hvl,←g1,aai]) (fun j d hd=>(g2 j d hd).1) (fun j d hd=>(g2 j d hd).2.cd fun b hb=>hb.elim)
     | 1 =>
       simp only[abw,aaN,aaj] at hd;subst hd;exact hyv.cd fun b hb=>hb.elim
     | j+2=>simp at hd
end
end Go.Am
namespace Go.Wc
open Go.Am
theorem tB (l:List Int):3≤(ar l).length∧(ar l).length≤8:=by have:=js (l:=l) (i:=0) (most:=6) acM;unfold ar;rw[oX];omega
end Go.Wc
namespace Go.Am
open Go.RowKit
section
variable {P:Program} {w0:Fr}{M0:Nat→Prop}{o:Oper}{ρ:Operand→Option SV}{ob:List (Nat×Ob)}{e T:TypeId}{x y:Operand}{b:Nat}
theorem Kk {u:Value}{n:Int}{q q':IntKind}(ho:o.op=.makeSlice T x y)(hT:P.underlying T=some (.slice e))(hel:iK P e 1 b=true)(hz:zeroOf P e=some [u])(hu:u.oneCell'=true)
   (hx:aZ ρ x=some (.int q n))(hy:aZ ρ y=some (.int q' n))(h:0<n∧b*n.toNat≤281474976710656∧n≤4611686018427387904)(aa:∀b,M0 b→b<w0.w.heap.size):Pure P w0 M0 o ρ ob (.v .pl (.sl (List.replicate n.toNat (.sc u)))) :=
 aD fun E w ev hw hh=>by
   obtain⟨h0,hb,hm⟩:=h;obtain⟨i,zz,hi,hzz,hsz,hby,hzs,hk0,hck⟩:=gJ hel;have hzc:zz.cells.toList=[u]:=by
     unfold zeroOf at hz;rw[hi] at hz;simp only[abO,hzz,aa3,aaj] at hz;exact hz
   have hx':ev x=.int q n:=bK hh hx;have hy':ev y=.int q' n:=bK hh hy;obtain⟨w',hrun,hown,hg⟩:=run_make_full (P:=P) w w.heap.size T e i zz 1 hT hi hzz hsz q q' n.toNat (by rw[hby];exact hb) (by simp only[maxLen];omega) (aak _);rw[Int.toNat_of_nonneg acK] at hrun;have hcells:(madeCells zz.cells (n.toNat*1)).toList=List.replicate n.toNat u:=by
     have hzc':zz.cells=#[u]:=by rw[←Array.toList_inj];simpa using hzc
     rw[hzc',abJ];apply abe;intro j;simp only[madeCells,acu,aap,abQ];rcases aaK j n.toNat with h|h
     · simp[h,Nat.mod_one]
     · rw[if_neg acK];simp;omega
   rw[hcells] at hown;obtain⟨g1,g2,g3,g4,g5⟩:=hg;have hbl:bB w0.dr w.heap.size w w':=⟨⟨g1,g2,g3,g4,fun k hk=>g5 k hk (by simp)⟩,fun _=>lQ _ _ _ _ hrun⟩;refine⟨_,w',by simp only[execOp,ho,hx',hy',Sem.run_bind,hrun,Result.andThen_ok,Sem.run_pure];rfl,hbl,?_⟩;obtain⟨hl,hq⟩:=hown;rcases hq with⟨hv,_⟩|⟨g,cap,cur,hv,hgb,hh2,hnc,hcm,hcs,ht⟩
   · cases hv
   · simp only [Value.slice.injEq, aaj, Addr.mk.injEq] at hv
     obtain⟨⟨rfl,_⟩,_,rfl⟩:=hv;have hsz':w.heap.size<w'.heap.size:=by
       rcases aaK w.heap.size w'.heap.size with h|h
       · exact h
       · rw[ab9 acK] at hh2;cases hh2
     have hfl:flat (List.replicate n.toNat (AV.sc u))=List.replicate n.toNat (AV.sc u):=by
       generalize n.toNat=m
       induction m with
       | zero=>rfl
       | succ m ih=>simp only[acy,flat,abt] at ih ⊢;rw[ih];rfl
     refine .sl _ _ _ _ 1 (fun _=>u) (by rw[abo]) (aak _) (fun z hz=>by rw[aci hz];rfl) (fun _=>⟨_,0,rfl,fun hM=>?_,hsz',fun j hj=>?_⟩) (fun j d hd=>?_) (fun j d hd=>?_)
     · rcases hM with hM | hM
       · have:=aa _ hM;have:=hw.below.size;omega
       · have:=(hw.bF hM).2;omega
     · rw [cell_of_row _ w.heap.size (0 + j) _ e (0, 0) hh2, abg]
       have hj2:j<n.toNat:=acK;have h3:(cur.toList.take (n.toNat*1))[j]?=some u:=by rw[ht,abQ,if_pos hj2]
       rw[List.getElem?_take_of_lt acK] at h3;simpa using h3
     · rw [hfl, abQ] at hd
       split at hd
       · cases hd;rfl
       · cases hd
     · rw [hfl, abQ] at hd
       split at hd
       · cases hd;exact .sc _ hu
       · cases hd
theorem Z5 {Q:Exit→St→Prop}{k:List Fm}{R:St→Prop}{m:Nat}{l l':List (Nat×SV)}{o':List (Nat×Ob)}(fs ids oids:List Nat)(h:R ⟨m,l',o'⟩)(ho:nF fB oids ob some=some o':=by rfl)(hl:PU ob o' l (ids.map fun t=>(t,fs.contains t))=some l':=by rfl)(hM:HM w0 M0:=by exact aa):At P w0 M0 Q (.cut R :: k) (.done .normal) ⟨m,l,ob⟩:=by obtain⟨o1,h1,h2⟩:=ic DL _ _ _ _ ho;cases h1;exact⟨⟨m,l',o'⟩,BM hM (B5 (s:=⟨m,l,ob⟩) hl) (jC h2),h⟩
end
end Go.Am
