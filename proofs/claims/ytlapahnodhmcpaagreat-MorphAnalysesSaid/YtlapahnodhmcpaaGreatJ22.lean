/-
  Part of the proof.
-/
import Derived.Test.YtlapahnodhmcpaaGreatJ0
import Derived.Test.YtlapahnodhmcpaaGreatJ21
import Derived.Test.YtlapahnodhmcpaaGreatJ12
import Derived.Test.YtlapahnodhmcpaaGreatJ20
import Derived.Test.YtlapahnodhmcpaaGreatJ14
import Derived.Shelf.SlSortCmp.Whole1
import Derived.Lib.IndexAny
import Derived.Test.YtlapahnodhmcpaaGreatJ6
import Derived.Test.YtlapahnodhmcpaaGreatJ10
set_option linter.unusedVariables false
set_option linter.unusedSectionVars false
set_option linter.unusedSimpArgs false
set_option maxRecDepth 100000
set_option maxHeartbeats 40000000
namespace Go.Am
open Go.RowKit
section
variable {P:Program} {w0:Fr}{M0:Nat→Prop}
def Py (P : Program) (f : FuncId) (n t : Nat) (T : TypeId) (k u v : Nat) (c : Code) : Prop := ∃ fn, P.funcs[f]? = some fn ∧ fn.body = some c ∧ fn.ntmps = n ∧ fn.results = #[.cell t T, .tmp u, .tmp v] ∧ (fn.name == "runtime.NumGoroutine") = false ∧ bn P T = some true ∧ bW P T = some k
theorem Py.bu {f n t k u v:Nat}{T:TypeId}{c:Code}(h:Py P f n t T k u v c):cd P f:=by
 obtain⟨fn,h1,h2,_,_,h5,_⟩:=h
 exact⟨fn,h1,h5,by rw[h2];rfl⟩
def Rn (t k u v:Nat)(r r' r'':AV):Exit→St→Prop
 | .normal,s|.ret,s=>(∃q,((s.s.lookup t).bind (rG s.o k)).bind (bR s.o)=some q∧q.data=r)∧(∃q,(s.s.lookup u).bind (bR s.o)=some q∧q.data=r')∧(∃q,(s.s.lookup v).bind (bR s.o)=some q∧q.data=r'')
 | _,_=>False
theorem three {w:World}{M:Nat→Prop}{a b c:Value}{r r' r'':AV}(h1:bJ w M a r)(h2:bJ w M b r')(h3:bJ w M c r''):bJ w M (.tuple #[a,b,c]) (.tup [r,r',r'']) :=
 .tup [a,b,c] [r,r',r''] rfl (fun j d hd=>by
  match j,hd with
  | 0,hd=>simp at hd;subst hd;exact h1
  | 1,hd=>simp at hd;subst hd;exact h2
  | 2,hd=>simp at hd;subst hd;exact h3
  | j+3,hd=>simp at hd)
theorem vO {f n t k u v:Nat}{T:TypeId}{c:Code}(hf:Py P f n t T k u v c){ds:List AV}{r r' r'':AV}(hn:ds.length≤n)
   (h:∀(w0:Fr)(M0:Nat→Prop),(∀b,M0 b→b<w0.w.heap.size)→ao P w0 M0 c (St.enter n .pl ds) (Rn t k u v r r' r'')):aX P f ds (.p (.tup [r,r',r''])):=by
 refine⟨hf.bu,fun w M vs hM hv hr=>?_⟩
 have h0:=h (Fr.all w) M hM
 rw[eS] at h0
 obtain⟨fn,h1,h2,h3,h4,h5,h6,h7⟩:=hf
 refine(dt h1 h2 h3 (R:=fun z E' s' w'=>Below w.heap.size w w'∧iI P w' M (fun b=>b<w.heap.size) z (.p (.tup [r,r',r'']))) (by simpa using hn) vs (by simpa using hv) jL (fun j d hd=>?_) h0 (fun e s' a' w' E' hq hs=>?_)).mono fun e w' ⟨v,E',s',he,hR⟩=>⟨v,he,hR⟩
 · rw [Z6, Z4] at hd
   obtain⟨a,ha,rfl⟩:=hd
   have:=hr j a ha
   exact this.ca (fun b hb=>Or.elim hb id (fun h=>by rw[ei] at h;exact h.elim))
 · have fin : ((∃ q, ((s'.s.lookup t).bind (rG s'.o k)).bind (bR s'.o) = some q ∧ q.data = r) ∧ (∃ q, (s'.s.lookup u).bind (bR s'.o) = some q ∧ q.data = r') ∧ (∃ q, (s'.s.lookup v).bind (bR s'.o) = some q ∧ q.data = r'')) →
       ∃z,(results fn a'.tmps).run P w'=.ok z w'∧Below w.heap.size w w'∧iI P w' M (fun b=>b<w.heap.size) z (.p (.tup [r,r',r''])):=by
     rintro⟨⟨q1,hb,hd1⟩,⟨q2,hu,hd2⟩,⟨q3,hv3,hd3⟩⟩
     rw[aaQ] at hb
     obtain⟨sv',hb,hret⟩:=hb
     rw[aaQ] at hb
     obtain⟨sv,hl,hb⟩:=hb
     rw[aaQ] at hu
     obtain⟨su,hlu,hretu⟩:=hu
     rw[aaQ] at hv3
     obtain⟨s3,hl3,hret3⟩:=hv3
     obtain⟨z,g1,g2⟩:=iy h6 h7 hs.wok (hs.slots t sv hl).2 hb
     have r1:=(dW hs.wok g2 hret).rep (fun b hb=>hM b hb)
     have r2:=(dW hs.wok (hs.slots u su hlu).2 hretu).rep (fun b hb=>hM b hb)
     have r3:=(dW hs.wok (hs.slots v s3 hl3).2 hret3).rep (fun b hb=>hM b hb)
     rw[hd1] at r1;rw[hd2] at r2;rw[hd3] at r3
     refine⟨.tuple #[z,a'.tmps.getD u undef,a'.tmps.getD v undef],?_,hs.wok.below.below,three r1 r2 r3⟩
     have g1':((Sem.run P (asAddr (a'.tmps[t]?.getD undef)) w').andThen fun x w=>Sem.run P (loadVar T x) w)=.ok z w':=by simpa using g1
     simp[results,h4,Sem.run_bind]
     revert g1'
     cases Sem.run P (asAddr (a'.tmps[t]?.getD undef)) w' with
     | ok a w2=>intro g;simp only[Result.andThen_ok] at g ⊢;rw[g];rfl
     | _=>intro g;exact absurd g (by simp[Result.andThen])
   cases e with
   | normal=>exact⟨.inl rfl,fin hq⟩
   | ret=>exact⟨.inr rfl,fin hq⟩
   | exit _=>exact hq.elim
   | goto _=>exact hq.elim
   | panic _=>exact hq.elim
   | outgrown=>exact hq.elim
theorem uw {t k u v:Nat}{r r' r'':AV}{s:St}{q q' q'':RV}(h:((s.s.lookup t).bind (rG s.o k)).bind (bR s.o)=some q)(h':(s.s.lookup u).bind (bR s.o)=some q')(h'':(s.s.lookup v).bind (bR s.o)=some q'')(e:q.data=r∧q'.data=r'∧q''.data=r''):Rn t k u v r r' r'' .ret s:=⟨⟨q,h,e.1⟩,⟨q',h',e.2.1⟩,⟨q'',h'',e.2.2⟩⟩
def Ro (t u k v:Nat)(r r' r'':AV):Exit→St→Prop
 | .normal,s|.ret,s=>(∃q,(s.s.lookup t).bind (bR s.o)=some q∧q.data=r)∧(∃q,((s.s.lookup u).bind (rG s.o k)).bind (bR s.o)=some q∧q.data=r')∧(∃q,(s.s.lookup v).bind (bR s.o)=some q∧q.data=r'')
 | _,_=>False
theorem o0 {f n t u v k:Nat}{T:TypeId}{c:Code}(hf:OY P f n t u T k v c){ds:List AV}{r r' r'':AV}(hn:ds.length≤n)
   (h:∀(w0:Fr)(M0:Nat→Prop),(∀b,M0 b→b<w0.w.heap.size)→ao P w0 M0 c (St.enter n .pl ds) (Ro t u k v r r' r'')):aX P f ds (.p (.tup [r,r',r''])):=by
 refine⟨hf.bu,fun w M vs hM hv hr=>?_⟩
 have h0:=h (Fr.all w) M hM
 rw[eS] at h0
 obtain⟨fn,h1,h2,h3,h4,h5,h6,h7⟩:=hf
 refine(dt h1 h2 h3 (R:=fun z E' s' w'=>Below w.heap.size w w'∧iI P w' M (fun b=>b<w.heap.size) z (.p (.tup [r,r',r'']))) (by simpa using hn) vs (by simpa using hv) jL (fun j d hd=>?_) h0 (fun e s' a' w' E' hq hs=>?_)).mono fun e w' ⟨v,E',s',he,hR⟩=>⟨v,he,hR⟩
 · rw [Z6, Z4] at hd
   obtain⟨a,ha,rfl⟩:=hd
   have:=hr j a ha
   exact this.ca (fun b hb=>Or.elim hb id (fun h=>by rw[ei] at h;exact h.elim))
 · have fin : ((∃ q, (s'.s.lookup t).bind (bR s'.o) = some q ∧ q.data = r) ∧ (∃ q, ((s'.s.lookup u).bind (rG s'.o k)).bind (bR s'.o) = some q ∧ q.data = r') ∧ (∃ q, (s'.s.lookup v).bind (bR s'.o) = some q ∧ q.data = r'')) →
       ∃z,(results fn a'.tmps).run P w'=.ok z w'∧Below w.heap.size w w'∧iI P w' M (fun b=>b<w.heap.size) z (.p (.tup [r,r',r''])):=by
     rintro⟨⟨q2,hu,hd2⟩,⟨q1,hb,hd1⟩,⟨q3,hv3,hd3⟩⟩
     rw[aaQ] at hb
     obtain⟨sv',hb,hret⟩:=hb
     rw[aaQ] at hb
     obtain⟨sv,hl,hb⟩:=hb
     rw[aaQ] at hu
     obtain⟨su,hlu,hretu⟩:=hu
     rw[aaQ] at hv3
     obtain⟨s3,hl3,hret3⟩:=hv3
     obtain⟨z,g1,g2⟩:=iy h6 h7 hs.wok (hs.slots u sv hl).2 hb
     have r1:=(dW hs.wok g2 hret).rep (fun b hb=>hM b hb)
     have r2:=(dW hs.wok (hs.slots t su hlu).2 hretu).rep (fun b hb=>hM b hb)
     have r3:=(dW hs.wok (hs.slots v s3 hl3).2 hret3).rep (fun b hb=>hM b hb)
     rw[hd1] at r1;rw[hd2] at r2;rw[hd3] at r3
     refine⟨.tuple #[a'.tmps.getD t undef,z,a'.tmps.getD v undef],?_,hs.wok.below.below,three r2 r1 r3⟩
     have g1':((Sem.run P (asAddr (a'.tmps[u]?.getD undef)) w').andThen fun x w=>Sem.run P (loadVar T x) w)=.ok z w':=by simpa using g1
     simp[results,h4,Sem.run_bind]
     revert g1'
     cases Sem.run P (asAddr (a'.tmps[u]?.getD undef)) w' with
     | ok a w2=>intro g;simp only[Result.andThen_ok] at g ⊢;rw[g];rfl
     | _=>intro g;exact absurd g (by simp[Result.andThen])
   cases e with
   | normal=>exact⟨.inl rfl,fin hq⟩
   | ret=>exact⟨.inr rfl,fin hq⟩
   | exit _=>exact hq.elim
   | goto _=>exact hq.elim
   | panic _=>exact hq.elim
   | outgrown=>exact hq.elim
theorem lI {t u k v:Nat}{r r' r'':AV}{s:St}{q q' q'':RV}(h:(s.s.lookup t).bind (bR s.o)=some q)(h':((s.s.lookup u).bind (rG s.o k)).bind (bR s.o)=some q')(h'':(s.s.lookup v).bind (bR s.o)=some q'')(e:q.data=r∧q'.data=r'∧q''.data=r''):Ro t u k v r r' r'' .ret s:=⟨⟨q,h,e.1⟩,⟨q',h',e.2.1⟩,⟨q'',h'',e.2.2⟩⟩
end
open Go.Sort Go.Proofs
structure MX (P:Program)(f:FuncId):Prop where
 bu:cd P f
 none:∀(p:Option Addr)(cap:Nat)(fv:Value)(w:World),Calls P f #[.slice p 0 cap,fv] w fun e w'=>e=.returned (.tuple #[])∧w'=w
 some:∀{α:Type} [Inhabited α](enc:α→Value)(h1:OneCell enc)(cf:α→α→Int)(hO:SWO (ltOf cf))(g:Nat)(cb:Array Value)(blk off cap:Nat)(d:Array α)(w:World)
  (eg:∀args w,(callFunc g args).run P w=.ok (.enter g args) w)(hcmp:CmpLays1 P g cb enc cf blk off d.size w)(hH:Holds enc w blk off d)(hblk:blk<w.heap.size)(hsz:d.size<4611686018427387904),
  Calls P f #[.slice (.some ⟨blk,off,.none⟩) d.size cap,.func (.func g) #[] cb] w fun e w' =>
   e=.returned (.tuple #[])∧∃d' n os,PermIn 0 d.size d d'∧SortedIn (ltOf cf) 0 d.size d'∧w'=sortWorld enc w blk off n d' os
section
variable {P:Program} {w0:Fr}{M0:Nat→Prop}
variable {o:Oper} {s:St}{x y:Operand}{T T' e:TypeId}{c:fQ}{id t k:Nat}
theorem F1 {β:Type} {f0:β→AV} {cf:β→β→Int} {p:β→Prop} {l:List β} {f g:FuncId} {caps:List AV} {ats:Array TypeId} (hS:MX P f) (ho:o.op=.call { callee:=.value (.func f),args:=#[x,y],argTypes:=ats }) (hd:o.dst=some t) (hn:Nat.blt t s.n=true)
   (hnd:Nodup s.s=true)(hx:s.ev x=some (.own id))(hl:s.o.lookup id=some (.arr e (l.map f0)))(hy:s.ev y=some (.v .pl (.clo g caps)))(hk:bW P e=some 1)(hlf:∀z,AV.leaf (f0 z)=true)(hp:∀z∈l,p z)
   (hc:∀a b:β,p a→p b→aq P g ([f0 a,f0 b]++caps) (.p (int (cf a b))))(hg:cd P g)(hirr:∀a,p a→¬cf a a<0)(htr:∀a b c,p a→p b→p c→cf a b<0→cf b c<0→cf a c<0)
   (htot:∀a b,p a→p b→¬cf a b<0→¬cf b a<0→a=b)(hsz:l.length<4611686018427387904)(aa:∀b,M0 b→b<w0.w.heap.size) :
   Step P w0 M0 o s ((s.cD false id (.arr e ((l.mergeSort fun x y=>!decide (cf y x<0)).map f0))).put t (.v .pl (.tup []))):=by
 rintro a w Q ⟨E,hs⟩
 have hxv:=hs.ev hx _ _ hl
 have hyv:bJ w (cC M0 (owned E s.o) .pl) (a.eval y) (.clo g caps):=hs.ev hy
 have hob:=hs.wok.objs id _ hl
 obtain⟨vals,⟨hown,hownF⟩,hcl,hrp⟩:=hob
 have hck:=cL hk
 have hxl:(l.map f0).length=l.length:=by simp
 have hvlen:vals.length=l.length:=by have:=hown.1;rw[hck] at this;simpa using this
 have hfla:flat (l.map f0)=l.map f0:=jB fun x hx=>by obtain⟨z,_,rfl⟩:=aao.1 hx;exact hlf z
 have hrepx:∀i (hi:i<l.length),bJ w (cC M0 (owned E s.o) .pl) (vals.getD i undef) (f0 l[i]):=fun i hi =>
   (hrp i (f0 l[i]) (by rw[hfla,Z6,Z3 hi];rfl)).2
 generalize hq:a.eval y=q at hyv
 cases hyv with
 | clo _ cb _ hnc hr =>
   have hrun:(execOp a.eval o).run P w=.ok (.enter f #[E.cur id,.func (.func g) #[] cb.toArray]) w:=by
     have:=ft (P:=P) (ev:=a.eval) (w:=w) (caps:=#[]) ho rfl hS.bu
     simpa[hxv,hq] using this
   unfold Oper.wp
   rw[hrun]
   simp only[Oper.upon]
   rcases hown.2 with⟨hv,hn0⟩|⟨gb,cap,cur,hv,hgb,hh,hnc',hcm,hcs,htake⟩
   · -- nothing to sort
     have hl0:l=[]:=aak (by simpa using hn0)
     rw[hv]
     refine(hS.none none 0 _ w).mono fun e' w' ⟨he,hw⟩=>?_
     subst he;subst hw
     simp only[hd]
     refine⟨E,a8.put ?_ (by simpa[St.cD] using hn) (bJ.tup [] [] J (fun j d hd=>by simp at hd))⟩
     refine hs.cD false (fun _=>⟨rfl,.inl ⟨e,_,_,hl,rfl,by simp⟩⟩) hnd aa (fun i hi=>⟨rfl,rfl⟩) (.inr J) none ⟨rfl,rfl,rfl,Z1 _,fun _ _ _=>rfl⟩ (fun _=>Z1 _) (fun g hg'=>by cases hg') (fun b hb=>.inl ⟨_,hl,hb⟩) (fun rep sv=>?_)
     subst hl0
     simp only[abX,aa9]
     refine⟨[],⟨⟨by simp,.inl ⟨hv,rfl⟩⟩,hownF⟩,fun x hx=>(by cases hx),fun j d hd=>(by simp[flat] at hd)⟩
   · rw [hxl] at hv hnc' htake
     rw[hck,abk] at hcs
     rw[hck,abk] at htake
     rcases abb l.length with hl0|hpos
     · -- nothing to sort, with room behind
       have hl0:l=[]:=aak hl0
       rw[hv,hl0]
       refine(hS.none _ cap _ w).mono fun e' w' ⟨he,hw⟩=>?_
       subst he;subst hw
       simp only[hd]
       refine⟨E,a8.put ?_ (by simpa[St.cD] using hn) (bJ.tup [] [] J (fun j d hd=>by simp at hd))⟩
       refine hs.cD false (fun _=>⟨rfl,.inl ⟨e,_,_,hl,rfl,by simp[hl0]⟩⟩) hnd aa (fun i hi=>⟨rfl,rfl⟩) (.inr J) none ⟨rfl,rfl,rfl,Z1 _,fun _ _ _=>rfl⟩ (fun _=>Z1 _) (fun g hg'=>by cases hg') (fun b hb=>.inl ⟨_,hl,hb⟩) (fun rep sv=>?_)
       simp only[abX,aa9]
       refine⟨[],⟨⟨by simp,.inr ⟨gb,cap,cur,by rw[hv,hl0];rfl,hgb,hh,Z5 _,hcm,by rw[hck,abk];exact hcs,by simp⟩⟩,hownF⟩,fun x hx=>(by cases hx),fun j d hd=>(by simp[flat] at hd)⟩
     · have hblk : gb < w.heap.size := (aaB.1 hh).1
       have:Inhabited {i // i<l.length}:=⟨⟨0,hpos⟩⟩
       let d:List {i // i<l.length}:=(List.range l.length).attach.map fun z=>⟨z.1,aap.1 z.2⟩
       have hdl:d.map (·.1)=List.range l.length:=by simp[d,abY,aca]
       have hdlen:d.length=l.length:=by simp[d]
       let enc':{i // i<l.length}→Value:=fun z=>vals.getD z.1 undef
       let cf':{i // i<l.length}→{i // i<l.length}→Int:=fun x y=>cf (l[x.1]'x.2) (l[y.1]'y.2)
       have hpl:∀x:{i // i<l.length},p (l[x.1]'x.2):=fun x=>hp _ (aa4 x.2)
       have hone:OneCell enc':=fun x=>bJ.one (hrepx x.1 x.2) (hlf _)
       have hO:SWO (ltOf cf'):=by
         refine⟨fun x=>by simpa[ltOf,cf'] using hirr _ (hpl x),fun x y z h h'=>?_,fun x y z h h'=>?_⟩
         · simp only [ltOf, cf', decide_eq_true_eq] at h h' ⊢
           exact htr _ _ _ (hpl x) (hpl y) (hpl z) h h'
         · simp only [ltOf, cf', decide_eq_false_iff_not] at h h' ⊢
           intro hxz
           by_cases hyx:cf (l[y.1]'y.2) (l[x.1]'x.2)<0
           · exact h' (htr _ _ _ (hpl y) (hpl x) (hpl z) hyx hxz)
           · have := htot _ _ (hpl x) (hpl y) h hyx
             rw[this] at hxz;exact h' hxz
       have hcurj:∀j (hj:j<l.length),cur[j]?=some (vals.getD j undef):=fun j hj=>by
         have:(cur.toList.take l.length)[j]?=vals[j]?:=by rw[htake]
         rw[aaG,if_pos hj,aaw] at this
         rw[this,ZY,Z3 ace];rfl
       have hdj:∀j (hj:j<l.length),(d.toArray[j]!).1=j:=fun j hj=>by
         rw[getElem!_pos d.toArray j (by simpa[hdlen] using hj)]
         simp[d]
       have hH:Holds enc' w gb 0 d.toArray:=by
         intro j hj
         have hj':j<l.length:=by simpa[hdlen] using hj
         refine⟨?_,?_⟩
         · simp only [World.cell?, hh, aaV, enc', hdj j hj']
           exact hcurj j hj'
         · simp only [World.frozen?, hh]
           simp
       have hcmp:CmpLays1 P g cb.toArray enc' cf' gb 0 d.toArray.size w:=by
         intro m os dk hdk x y
         obtain⟨_,hcall⟩:=hc (l[x.1]'x.2) (l[y.1]'y.2) (hpl x) (hpl y)
         generalize hW:sortWorld enc' w gb 0 m dk os=W
         have hsz2:w.heap.size≤W.heap.size:=by rw[←hW,fx];omega
         have hoth:∀b,b≠gb→b<w.heap.size→W.heap[b]?=w.heap[b]?:=fun b h1 h2=>by rw[←hW];exact eO _ _ _ _ _ _ h1 h2
         have hnob:∀b,¬cC M0 (owned E s.o) .pl b→b≠gb:=fun b hb he=>by
           subst he
           exact hb (.inr ⟨id,_,hl,by simp only[bE,hv,Value.ownBlock]⟩)
         have hrepW:∀x:{i // i<l.length},bJ W (fun _=>False) (enc' x) (f0 (l[x.1]'x.2)):=fun x =>
           (hrepx x.1 x.2).mono hsz2 (fun b hb hnM=>hoth b (hnob b hnM) hb) (fun b _ _ hf=>hf)
         have hc2:=hcall W ([enc' x,enc' y]++cb) (by simp[hnc]) (fun j d' hd'=>?_)
         · have e1 : ([enc' x, enc' y] ++ cb).toArray = #[enc' x, enc' y] ++ cb.toArray := by apply abz; simp
           rw[e1] at hc2
           refine hc2.mono fun e' w' ⟨v,he,hb,hrv⟩=>⟨?_,qX hb⟩
           have hrv':bJ w' _ v (int (cf (l[x.1]'x.2) (l[y.1]'y.2))):=hrv
           cases hrv'
           exact he
         · match j with
           | 0=>simp at hd';subst hd';exact hrepW x
           | 1=>simp at hd';subst hd';exact hrepW y
           | j + 2 =>
             have hd2:caps[j]?=some d':=by simpa using hd'
             have:=hr j d' hd2
             have e2:([enc' x,enc' y]++cb).getD (j+2) undef=cb.getD j undef:=by simp[ZY]
             rw[e2]
             exact this.mono hsz2 (fun b hb hnM=>hoth b (hnob b hnM) hb) (fun b _ _ hf=>hf)
       have eg:∀args w,(callFunc g args).run P w=.ok (.enter g args) w:=by
         obtain⟨fn,g1,g2,g3⟩:=hg
         have g3':fn.body≠none:=by intro hn;rw[hn] at g3;cases g3
         have g2' : ¬ fn.name = "runtime.NumGoroutine" := by simpa using g2
         intro args w
         simp[callFunc,g1,g2',g3']
       have hcall:=hS.some enc' hone cf' hO g cb.toArray gb 0 cap d.toArray w eg hcmp hH hblk (by simpa[hdlen] using hsz)
       have hsd:d.toArray.size=l.length:=by simp[hdlen]
       rw[hsd] at hcall
       rw[hv]
       refine hcall.mono fun e' w' ⟨he,dk,n,os,hperm,hsorted,hw⟩=>?_
       subst he
       simp only[hd]
       obtain⟨hps,_,hpp⟩:=hperm
       have hdks:dk.size=l.length:=by rw[hps,hsd]
       have hml:(dk.toList.map fun z=>l[z.1]'z.2)=l.mergeSort fun x y=>!decide (cf y x<0):=by
         refine Ag hirr htr htot hp ?_ ?_
         · have e0 : ∀ (a : Array {i // i < l.length}) n, n = a.size → (a.extract 0 n).toList = a.toList := by rintro a _ rfl; simp
           have e1:=e0 dk l.length hdks.symm
           have e2:=e0 d.toArray l.length hsd.symm
           rw[List.toList_toArray] at e2
           rw[e1,e2] at hpp
           have e3:(d.map fun z=>l[z.1]'z.2)=l:=by
             apply aa0
             intro j
             rcases aaq j l.length with hj|hj
             · simp[d,hj]
             · rw[aaz (by simp[hdlen];omega),aaz hj]
           have:=hpp.map fun z=>l[z.1]'z.2
           rwa [e3] at this
         · rw [ab0, abx]
           intro i j hi hj hij
           have:=hsorted i j (Z5 _) hij (by simpa[hdks] using hj)
           rw[getElem!_pos dk j (by simpa using hj),getElem!_pos dk i (by simpa using hi)] at this
           simpa[ltOf,cf'] using this
       rw[←hml]
       have hgr:w.grownBy w' (some gb):=by
         rw[hw]
         exact⟨rfl,rfl,rfl,by rw[fx];omega,fun k hk hne=>eO _ _ _ _ _ _ (fun he=>hne (by rw[he])) hk⟩
       have hdrawn:w.drawn≤w'.drawn:=by rw[hw];simp[sortWorld,grow,putRow,mapBlock,Sort.ahead]
       have hhw:w'.heap[gb]?=some (.cells (putCells enc' 0 dk cur) e (0,0)):=by
         have:=jP (enc:=enc') w gb n dk os (off:=0) hh
         rw[hw];exact this
       refine⟨E,a8.put ?_ (by simpa[St.cD] using hn) (bJ.tup [] [] J (fun j d hd=>by simp at hd))⟩
       refine hs.cD false (fun _=>⟨rfl,.inl ⟨e,_,_,hl,rfl,by simp[hdks]⟩⟩) hnd aa (fun i hi=>⟨rfl,rfl⟩) (.inr J) (some gb) hgr (fun _=>hdrawn) (fun g' hg'=>⟨_,hl,by simp only[Option.some.injEq] at hg';subst hg';simp only[bE,hv,Value.ownBlock]⟩) (fun b hb=>.inl ⟨_,hl,hb⟩) (fun rep sv=>?_)
       refine⟨dk.toList.map enc',⟨⟨by rw[hck];simp,.inr ⟨gb,cap,_,by rw[hv];simp[hdks],hgb,hhw,by simpa[hdks] using hnc',hcm,by rw[hck,abk];simpa[putCells] using hcs,?_⟩⟩,hownF⟩,fun z hz=>?_,fun j d' hd'=>?_⟩
       · rw [hck]
         apply aa0
         intro j
         simp only[Z0,abk,abG,hdks]
         rw[aaG]
         by_cases hj:j<l.length
         · rw [if_pos hj, aaw]
           simp only[putCells,Array.getElem?_mapIdx,hcurj j hj,aaK,Z5,true_and,aaV,hdks,hj,if_true,abH]
           rw[Z6,aaw,aas ace,aaK,getElem!_pos dk j ace]
         · rw[if_neg hj,aaz (by simp[hdks];omega)]
       · rw [aao] at hz
         obtain⟨q,hq,rfl⟩:=hz
         rw[hck,oh (hlf _)];rfl
       · have hfl2 : flat ((dk.toList.map fun z => l[z.1]'z.2).map f0) = (dk.toList.map fun z => l[z.1]'z.2).map f0 := jB fun x hx => by obtain ⟨z, _, rfl⟩ := aao.1 hx; exact hlf z
         rw[hfl2,Z6,Z6] at hd'
         cases hz:dk.toList[j]? with
         | none=>rw[hz] at hd';cases hd'
         | some z =>
           rw[hz] at hd'
           simp only[aaK,Option.some.injEq] at hd'
           subst hd'
           refine⟨hlf _,?_⟩
           rw[ZY,Z6,hz]
           exact rep _ _ _ (hrepx z.1 z.2) acg
end
end Go.Am
namespace Go.Wc
open Go.Am Go.MapKept
abbrev MY:List (List UInt8):=[[97],[98],[99],[101],[105],[110],[115],[116],[99,104],[195,169],[65],[115,99,104],[104],[108],[195,182],[117]]
def HH (l:List Int)(start:Int)(i:Nat):cQ:=⟨MY.getD ((start+i) % 16).toNat default,i,0,0,1+mr l (2+i) 9⟩
def HI (l:List Int)(start:Int)(a:List cQ)(i:Nat):cQ :=
 if 0<i∧mr l (10+i) 3=1 then{ HH l start i with base:=(a.getD (mr l (20+i) i).toNat default).base,mark:=mr l (30+i) 4,cap:=mr l (40+i) 2 } else HH l start i
def l4 (l:List Int)(start:Int):Nat→List cQ
 | 0=>[]
 | i+1=>l4 l start i++[HI l start (l4 l start i) i]
def ar (l:List Int):List cQ:=l4 l (mr l 1 16) (3+mr l 0 6).toNat
theorem oB (l:List Int)(start:Int):∀i,(l4 l start i).length=i
 | 0=>rfl
 | i+1=>by simp[l4,oB l start i]
theorem MZ {l:List Int}{n:Int}:l.take (if n<(l.length:Int) then n else(l.length:Int)).toNat=l.take n.toNat:=by
 split
 ·rfl
 ·rw[abl,aa1,aaj ace]
abbrev aN:List cQ:=[⟨[97],0,0,0,5⟩,⟨[98],1,0,0,6⟩,⟨[99],2,0,0,5⟩,⟨[101],3,0,0,5⟩,⟨[110],4,0,0,6⟩,⟨[115],5,0,0,4⟩,⟨[116],6,0,0,3⟩,⟨[99,104],7,0,0,10⟩,⟨[195,169],3,1,0,5⟩,⟨[65],0,0,1,7⟩]
end Go.Wc
namespace Go.Wb
open Go.Am
def CA (x:Rx)(l:List Rx):Nat:=l.findIdx fun y=>!decide (de y x<0)
def pQ (l:List Rx)(x:Rx):List Rx:=if CA x l<l.length∧de (l.getD (CA x l) default) x=0 then l else l.take (CA x l)++[x]++l.drop (CA x l)
theorem M3 {x:Rx}{l:List Rx}{i:Nat}(hi:i≤l.length)(h1:∀k,k<i→de (l.getD k default) x<0)(h2:i<l.length→¬de (l.getD i default) x<0):CA x l=i:=by
 rcases aaq i l.length with h|h
 ·refine(List.findIdx_eq h).2 ⟨?_,fun j hj=>?_⟩
  ·have:=h2 h;rw[dw h] at this;simp[this]
  ·have:=h1 j hj;rw[dw ace] at this;simp[this]
 ·have hi':i=l.length:=ace
  subst hi'
  refine List.findIdx_eq_length.2 fun x' hx=>?_
  obtain⟨j,hj,e⟩:=aaR hx
  have:=h1 j hj
  rw[dw hj,e] at this
  simp[this]
theorem Jw {x:Rx}{l:List Rx}{i:Nat}(hi:i<l.length)(h1:∀k,k<i→de (l.getD k default) x<0)(h2:de (l.getD i default) x=0):pQ l x=l:=by
 have e:=M3 (x:=x) (l:=l) (i:=i) ace h1 (fun _=>by omega)
 unfold pQ;rw[e,if_pos ⟨hi,h2⟩]
theorem M4 {x:Rx}{l:List Rx}{i:Nat}(hi:i≤l.length)(h1:∀k,k<i→de (l.getD k default) x<0)(h2:i<l.length→¬de (l.getD i default) x<0)(h3:i<l.length→¬de (l.getD i default) x=0) :
  pQ l x=l.take i++[x]++l.drop i:=by
 have e:=M3 hi h1 h2
 unfold pQ;rw[e,if_neg fun q=>h3 q.1 q.2]
theorem SU (x:Rx)(l:List Rx):CA x l≤l.length:=List.findIdx_le_length
theorem SX {x:Rx}{l:List Rx}{k:Nat}(h:k<CA x l):de (l.getD k default) x<0:=by
 have h1:=SU x l
 have h2:=List.not_of_lt_findIdx (p:=fun y=>!decide (de y x<0)) (xs:=l) h
 rw[dw ace]
 simpa using h2
theorem SY {x:Rx}{l:List Rx}(h:CA x l<l.length):¬de (l.getD (CA x l) default) x<0:=by
 have h2:=List.findIdx_getElem (p:=fun y=>!decide (de y x<0)) (xs:=l) (w:=h)
 have e:l.getD (CA x l) default=l[l.findIdx fun y=>!decide (de y x<0)]:=dw h
 rw[e]
 simpa using h2
theorem xT {x y:Rx}{l:List Rx}:y∈pQ l x↔y∈l∨y=x:=by
 unfold pQ
 split
 · next h=>exact⟨.inl,fun q=>q.elim id fun e=>by rw[e,←iB _ _ h.2];exact aP h.1⟩
 · rw [aaC, aaC, aag]
   constructor
   · rintro ((h | h) | h)
     · exact .inl (aa6 h)
     · exact .inr h
     · exact .inl (aaE h)
   · rintro (h | h)
     · rw [← aa3 (CA x l) l, aaC] at h
       exact h.elim (fun h=>.inl (.inl h)) .inr
     · exact .inl (.inr h)
theorem BN {x y:Rx}:qO x y=true∧x≠y↔de x y<0:=by
 rw[ou]
 constructor
 ·rintro⟨h,hn⟩
  rcases Int.lt_or_eq_of_le h with h|h
  ·exact h
  ·exact absurd (iB _ _ h) hn
 ·exact fun h=>⟨ace,fun e=>by rw[e] at h;exact xt _ h⟩
theorem xU {x:Rx}{l:List Rx}(hs:pF qO l):pF qO (pQ l x):=by
 unfold pQ
 split
 ·exact hs
 ·next hq =>
  have hlow:∀a∈l.take (CA x l),de a x<0:=fun a ha=>by
   obtain⟨j,hj,_,rfl⟩:=q9 ha
   exact SX hj
  have hhigh:∀a∈l.drop (CA x l),de x a<0:=fun a ha=>by
   obtain⟨j,hj,e⟩:=aaR ha
   rw[aad] at hj
   have h0:CA x l<l.length:=ace
   have h1:=SY h0
   have h2:¬de (l.getD (CA x l) default) x=0:=fun q=>hq ⟨h0,q⟩
   have h3:de x (l.getD (CA x l) default)<0:=by have:=kO (l.getD (CA x l) default) x;omega
   rw[List.getElem_drop,←dw ace] at e
   rw[←e]
   by_cases hj0:j=0
   ·rw[hj0,Nat.add_zero];exact h3
   ·exact kq _ _ _ h3 (BN.1 (jE hs ace ace))
  have hs':=hs
  unfold pF at hs' ⊢
  rw[aaI,List.pairwise_append]
  refine⟨List.Pairwise.take hs',?_,?_⟩
  ·rw[List.singleton_append,aaF]
   exact⟨fun a ha=>BN.2 (hhigh a ha),List.Pairwise.drop hs'⟩
  ·intro a ha b hb
   rw[List.singleton_append] at hb
   rcases aah.1 hb with rfl|hb
   ·exact BN.2 (hlow a ha)
   ·exact BN.2 (kq _ _ _ (hlow a ha) (hhigh b hb))
def mK (o:List Rx)(x:Rx):List Rx:=if x.kind=1 then o else if 2<x.kind then pQ o x else o
def l5 (L:List Rx):List Rx:=L.foldl mK []
def xV (b:Bool)(x:Rx):Bool:=if x.kind=1 then b else if 2<x.kind then b||cP x else b
def l6 (L:List Rx):Bool:=L.foldl xV false
def qS (L:List Rx):Bool:=L.any fun x=>decide (x.kind=1)
def OE (L:List Rx)(v:Nat):Bool:=L.any fun x=>x.syms.any fun z=>decide (z=v)
def fC (L:List Rx)(n:Nat):List Int:=((List.range n).filter (OE L)).map fun v:Nat=>(v:Int)
def l7 (L:List Rx):List Rx:=if 0<(fC L 64).length then pQ (l5 L) (.mk 2 (fC L 64) []) else l5 L
def mL (L:List Rx):List Rx:=if qS L=true∧l6 L=false then pQ (l7 L) eE else l7 L
def pR (l:List Rx):Rx:=vN (mL (aW l))
theorem jq {α β:Type} [Inhabited β]{f:α→β→α}{a:α}{l:List β}{i:Nat}(h:i<l.length):(l.take (i+1)).foldl f a=f ((l.take i).foldl f a) (l.getD i default):=by
 rw[bD h,abf];rfl
theorem Al:∀ (L o:List Rx),pF qO o→pF qO (L.foldl mK o)∧∀y,y∈L.foldl mK o↔y∈o∨(y∈L∧2<y.kind)
 | [],o,h=>⟨h,fun y=>⟨.inl,fun q=>q.elim id fun q=>by cases q.1⟩⟩
 | x :: L, o, h => by
   have h1:pF qO (mK o x):=by unfold mK;split;exact h;split;exact xU h;exact h
   obtain⟨h2,h3⟩:=Al L (mK o x) h1
   refine⟨h2,fun y=>(h3 y).trans ?_⟩
   have h4:y∈mK o x↔y∈o∨(y=x∧2<x.kind):=by
     unfold mK
     split
     · exact⟨.inl,fun q=>q.elim id fun q=>ace⟩
     · split
       · next hk=>rw[xT];exact or_congr_right ⟨fun e=>⟨e,hk⟩,fun e=>e.1⟩
       · next hk=>exact⟨.inl,fun q=>q.elim id fun q=>absurd q.2 hk⟩
   rw[h4,aah]
   constructor
   · rintro ((q | ⟨rfl, q⟩) | ⟨q, q2⟩)
     · exact .inl q
     · exact .inr ⟨.inl J,q⟩
     · exact .inr ⟨.inr q,q2⟩
   · rintro (q | ⟨rfl | q, q2⟩)
     · exact .inl (.inl q)
     · exact .inl (.inr ⟨rfl,q2⟩)
     · exact .inr ⟨q,q2⟩
theorem An:∀ (L:List Rx)(b:Bool),L.foldl xV b=true↔b=true∨∃x∈L,2<x.kind∧cP x=true
 | [],b=>⟨.inl,fun q=>q.elim id fun⟨x,hx,_⟩=>by cases hx⟩
 | x :: L, b => by
   rw[abD,An L]
   have h:xV b x=true↔b=true∨(2<x.kind∧cP x=true):=by
     unfold xV
     split
     · exact⟨.inl,fun q=>q.elim id fun q=>ace⟩
     · split
       · next hk=>rw[aaO];exact or_congr_right ⟨fun e=>⟨hk,e⟩,fun e=>e.2⟩
       · next hk=>exact⟨.inl,fun q=>q.elim id fun q=>absurd q.1 hk⟩
   rw[h]
   constructor
   · rintro ((q | q) | ⟨y, hy, q⟩)
     · exact .inl q
     · exact .inr ⟨x,Z7,q⟩
     · exact .inr ⟨y,aac _ hy,q⟩
   · rintro (q | ⟨y, hy, q⟩)
     · exact .inl (.inl q)
     · rcases aah.1 hy with rfl | hy
       · exact .inl (.inr q)
       · exact .inr ⟨y,hy,q⟩
theorem Jx (L:List Rx)(n:Nat):pF E6 (fC L n):=by
 unfold fC pF
 rw[ab0]
 refine acb (fun{a b} h=>⟨decide_eq_true ace,ace⟩) (List.Pairwise.filter _ (List.pairwise_lt_range (n:=n)))
theorem Jy {L:List Rx}{n:Nat}{z:Int}:z∈fC L n↔(0≤z∧z<n)∧∃x∈L,z∈x.syms:=by
 unfold fC OE
 rw[aao]
 constructor
 ·rintro⟨v,hv,rfl⟩
  rw[aaS,aap,aay] at hv
  obtain⟨h1,x,hx,h2⟩:=hv
  obtain⟨z,hz,e⟩:=aay.1 h2
  exact⟨ace,x,hx,by rw[←of_decide_eq_true e];exact hz⟩
 ·rintro⟨h,x,hx,hz⟩
  refine⟨z.toNat,aaS.2 ⟨aap.2 ace,aay.2 ⟨x,hx,aay.2 ⟨z,hz,decide_eq_true ace⟩⟩⟩,ace⟩
theorem M5 {x:Rx}(h:Nf x){z:Int}(hz:z∈x.syms):x.kind=2:=by
 cases h<;>first|rfl|cases hz
theorem wj {l:List Rx}(h:∀x∈l,Nf x):pR l=gN l:=by
 have hL:∀y∈aW l,Nf y∧y.kind≠4:=fun y hy=>sY h hy
 have hz:∀z,z∈fC (aW l) 64↔z∈c5 l:=fun z=>by
   rw[Jy,kS]
   constructor
   · rintro ⟨_, x, hx, hz⟩
     exact⟨x,hx,M5 (hL x hx).1 hz,hz⟩
   · rintro ⟨x, hx, hk, hz⟩
     have:=Hs h (kS.2 ⟨x,hx,hk,hz⟩)
     exact⟨ace,x,hx,hz⟩
 have hs:fC (aW l) 64=uf (c5 l):=qz ue (Jx _ _) (pH _) fun z=>by rw[hz,kR]
 have h0:0<(fC (aW l) 64).length↔0<(c5 l).length:=by
   rw[abd,abd];exact exists_congr hz
 obtain⟨h1,h2⟩:=Al (aW l) [] List.Pairwise.nil
 have h3 : pF qO (l7 (aW l)) ∧ ∀ y, y ∈ l7 (aW l) ↔ y ∈ dS l ∧ y.kind ≠ 1 := by
   have hD:∀y,(y∈aW l∧2<y.kind∨(0<(c5 l).length∧y=.mk 2 (uf (c5 l)) []))↔y∈dS l∧y.kind≠1:=fun y=>by
     rw[jX,jW,gq,ia]
     constructor
     · rintro (⟨q1, q2⟩ | ⟨q1, rfl⟩)
       · exact⟨.inl ⟨q1,ace,ace⟩,ace⟩
       · exact⟨.inr ⟨q1,rfl⟩,by show ¬(2:Int)=1;decide⟩
     · rintro ⟨⟨q1, q2, q3⟩ | ⟨q1, rfl⟩, q4⟩
       · have := (hL y q1).1.kinds
         exact .inl ⟨q1,ace⟩
       · exact .inr ⟨q1,rfl⟩
   unfold l7
   by_cases q:0<(fC (aW l) 64).length
   · rw [if_pos q]
     refine⟨xU h1,fun y=>?_⟩
     rw[←hD,xT,show(y∈l5 (aW l))↔_ from h2 y,hs]
     constructor
     · rintro ((q1 | q1) | q1)
       · cases q1
       · exact .inl q1
       · exact .inr ⟨h0.1 q,q1⟩
     · rintro (q1 | q1)
       · exact .inl (.inr q1)
       · exact .inr q1.2
   · rw [if_neg q]
     refine⟨h1,fun y=>?_⟩
     rw[←hD,show(y∈l5 (aW l))↔_ from h2 y]
     constructor
     · rintro (q1 | q1)
       · cases q1
       · exact .inl q1
     · rintro (q1 | q1)
       · exact .inr q1
       · exact absurd (h0.2 q1.1) q
 have hn:=fun x (hx:x∈dS l)=>wb h (y:=x) hx
 have h4 : pF qO (mL (aW l)) ∧ ∀ y, y ∈ mL (aW l) ↔ y ∈ j6 (dS l) := by
   have hC:∀y,y∈j6 (dS l)↔_:=fun y=>MI (pG _) (fun x hx=>⟨(hn x hx).1,(hn x hx).2.1⟩)
   have hO:l6 (aW l)=true↔∃y∈dS l,y.kind≠1∧cP y=true:=by
     rw[show(l6 (aW l)=true)↔_ from An (aW l) false]
     constructor
     · rintro (q | ⟨x, hx, hk, ha⟩)
       · cases q
       · exact⟨x,by rw[jX,jW,gq,ia];exact .inl ⟨hx,ace,ace⟩,ace,ha⟩
     · rintro ⟨y, hy, hk, ha⟩
       rw[jX,jW,gq,ia] at hy
       rcases hy with⟨q1,q2,q3⟩|⟨q1,rfl⟩
       · have := (hL y q1).1.kinds
         exact .inr ⟨y,q1,ace,ha⟩
       · rw [qp, if_neg (by show ¬ (2 : Int) = 3; decide), if_neg (by show ¬ (2 : Int) = 4; decide)] at ha
         exact absurd (of_decide_eq_true ha) (by show ¬((2:Int)=1∨(2:Int)=5);decide)
   have hE:qS (aW l)=true↔eE∈dS l:=by
     unfold qS
     rw[aay,jX,jW,gq,ia]
     constructor
     · rintro ⟨x, hx, hk⟩
       rw[←(hL x hx).1.k1 (of_decide_eq_true hk)]
       have:=of_decide_eq_true hk
       exact .inl ⟨hx,ace,ace⟩
     · rintro (⟨q, _⟩ | ⟨_, q⟩)
       · exact⟨_,q,decide_eq_true J⟩
       · injection q with q;exact absurd q acg
   have h1':∀y∈dS l,y.kind=1→y=eE:=fun y hy hk=>(hn y hy).1.k1 hk
   unfold mL
   by_cases q:qS (aW l)=true∧l6 (aW l)=false
   · rw [if_pos q]
     refine⟨xU h3.1,fun y=>?_⟩
     rw[xT,h3.2,hC]
     constructor
     · rintro (q1 | rfl)
       · exact⟨q1.1,fun q2=>q1.2 q2.1⟩
       · exact⟨hE.1 q.1,fun q2=>by rw[hO.2 q2.2] at q;cases q.2⟩
     · rintro ⟨q1, q2⟩
       by_cases hk:y.kind=1
       · exact .inr (h1' y q1 hk)
       · exact .inl ⟨q1,hk⟩
   · rw [if_neg q]
     refine⟨h3.1,fun y=>?_⟩
     rw[h3.2,hC]
     constructor
     · exact fun q1=>⟨q1.1,fun q2=>q1.2 q2.1⟩
     · rintro ⟨q1, q2⟩
       refine⟨q1,fun hk=>?_⟩
       have he:qS (aW l)=true:=hE.2 (by rw[←h1' y q1 hk];exact q1)
       cases ho:l6 (aW l) with
       | true=>exact q2 ⟨hk,hO.1 ho⟩
       | false=>exact q ⟨he,ho⟩
 have h5:pF qO (j6 (dS l)):=(Bv (pG _) hn fun x hx y hy=>xB (l:=l) hx hy).2.1
 unfold pR gN
 rw[qz xu h4.1 h5 h4.2]
theorem M6 {y:Rx}(h:Nf y)(hk:y.kind≠0∧y.kind≠4):gN [y]=y:=by
 have hm:∀x∈[y],x=y:=fun x hx=>aag.1 hx
 unfold gN
 rw[z6 (l:=[y]) (fun x hx=>by rw[hm x hx];exact h) (fun x hx=>by rw[hm x hx];exact hk) (abr _ _) (fun x hx z hz _ _=>by rw[hm x hx,hm z hz]),lW (fun q=>absurd q.1 (by simp)),Bu rfl];rfl
def rh (x:Rx):Rx:=if x.kind=0∨x.kind=1 then eE else if x.kind=5 then x else .mk 5 [] [if x.kind=4 then pR (x.kids.filter fun y=>!decide (y.kind=1)) else x]
theorem DV {x:Rx} (h:Nf x):rh x=lh x:=by
 unfold rh
 by_cases h01:x.kind=0∨x.kind=1
 · rw[if_pos h01,vY h01]
 · rw [if_neg h01]
   by_cases h5:x.kind=5
   · rw[if_pos h5,vZ h5]
   · rw [if_neg h5, ov h01 h5]
     by_cases h4:x.kind=4
     · rw [if_pos h4]
       obtain⟨e,h2,hn,hk4,hs,ht,ha⟩:=h.k4 h4
       rw[wj fun y hy=>hn y (aaS.1 hy).1]
       have hself:∀l:List Rx,2≤l.length→l.Sublist x.kids→gN l=.mk 4 [] l:=fun l hl hsub =>
         z7 hl (fun y hy=>hn y (hsub.subset hy)) (fun y hy=>hk4 y (hsub.subset hy)) (List.Pairwise.sublist hsub hs) (fun y hy z hz=>ht y (hsub.subset hy) z (hsub.subset hz))
           fun y hy hy1 z hz=>ha y (hsub.subset hy) hy1 z (hsub.subset hz)
       by_cases q:(x.kids.getD 0 default).kind=1
       · have hf : x.kids.filter (fun y => !decide (y.kind = 1)) = x.kids.drop 1 := by
           match hk:x.kids,h2 with
           | y :: l, _ =>
             rw[hk] at q hs hn hk4
             rw[abB (by have:y.kind=1:=q;simp[this])]
             show l.filter _=l
             refine ab4.2 fun z hz=>?_
             have h6:=nA hs (x:=z) hz
             have h7:¬z.kind=1:=fun hz1=>h6.1 (eX hs (fun x hx=>⟨hn x hx,(hk4 x hx).1⟩) h6.2 hz1).symm
             simp[h7]
         rw[hf]
         by_cases q2:x.kids.length=2
         · rw [v7 ⟨h4, q⟩ q2]
           have hl:x.kids.drop 1=[x.kids.getD 1 default]:=by rw[drop_cons ace,aaU ace]
           have hm:x.kids.getD 1 default∈x.kids:=aP ace
           rw[hl]
           have h8:=s4 (hn _ hm)
           have h9:pR [x.kids.getD 1 default]=gN [x.kids.getD 1 default]:=wj fun y hy=>by rw[aag.1 hy];exact hn _ hm
           rw[M6 (hn _ hm) (hk4 _ hm)]
         · rw [v8 ⟨h4, q⟩ q2, hself _ (by rw [aad]; omega) (List.drop_sublist _ _), h4]
           have es:x.syms=[]:=by rw[e];rfl
           rw[es]
       · rw [qy fun p => q p.2]
         have hf:x.kids.filter (fun y=>!decide (y.kind=1))=x.kids:=by
           refine ab4.2 fun z hz=>?_
           have h7:¬z.kind=1:=fun hz1=>q (by rw[eX hs (fun x hx=>⟨hn x hx,(hk4 x hx).1⟩) hz hz1];exact hz1)
           simp[h7]
         rw[hf,hself _ h2 (List.Sublist.refl _),←e]
     · rw[if_neg h4,qy fun p=>h4 p.1]
theorem rT (l:List Rx)(x:Rx):Rx.aB (pQ l x)≤Rx.aB l+x.size:=by
 unfold pQ
 split
 ·omega
 ·have:=je l (CA x l)
  rw[ef,ef,Rx.aB,Rx.aB];omega
theorem xW:∀ (L o:List Rx),Rx.aB (L.foldl mK o)≤Rx.aB o+Rx.aB L
 | [],o=>by rw[List.foldl_nil,Rx.aB];omega
 | x :: L, o => by
   have h1:=xW L (mK o x)
   have h2:Rx.aB (mK o x)≤Rx.aB o+x.size:=by
     have:=rT o x
     unfold mK;split
     · omega
     · split<;>omega
   rw[abD,Rx.aB];omega
theorem ux (L:List Rx):Rx.aB (l5 L)≤Rx.aB L:=by have:=xW L [];rw[show Rx.aB []=0 from rfl,aaV] at this;exact this
theorem uy (L:List Rx)(n:Nat):(fC L n).length≤n:=by
 unfold fC
 rw[Z0]
 exact aau (aba _ _) (by rw[aai];exact Z1 _)
theorem xX (L:List Rx):Rx.aB (l7 L)≤Rx.aB L+65:=by
 have h1:=ux L
 have h2:=rT (l5 L) (.mk 2 (fC L 64) [])
 have h3:=uy L 64
 rw[eF,Rx.aB] at h2
 unfold l7;split<;>omega
theorem F2 (L:List Rx):Rx.aB (mL L)≤Rx.aB L+66:=by
 have h1:=xX L
 have h2:=rT (l7 L) eE
 rw[show(eE).size=1 from rfl] at h2
 unfold mL;split<;>omega
section
variable {L:List Rx}{j k v:Nat}
theorem SZ (h:j<L.length)(hk:(L.getD j default).kind=1):l5 (L.take (j+1))=l5 (L.take j):=by unfold l5;rw[jq h];exact if_pos hk
theorem M7 (h:j<L.length)(hk:2<(L.getD j default).kind):l5 (L.take (j+1))=pQ (l5 (L.take j)) (L.getD j default):=by
 unfold l5;rw[jq h];unfold mK;rw[if_neg ace,if_pos hk]
theorem S0 (h:j<L.length)(hk:¬(L.getD j default).kind=1)(h2:¬2<(L.getD j default).kind):l5 (L.take (j+1))=l5 (L.take j):=by
 unfold l5;rw[jq h];unfold mK;rw[if_neg hk,if_neg h2]
theorem S1 (h:j<L.length)(hk:(L.getD j default).kind=1):l6 (L.take (j+1))=l6 (L.take j):=by unfold l6;rw[jq h];exact if_pos hk
theorem S2 (h:j<L.length)(hk:2<(L.getD j default).kind)(ho:l6 (L.take j)=true):l6 (L.take (j+1))=true:=by
 unfold l6 at ho ⊢;rw[jq h,ho];unfold xV;rw[if_neg ace,if_pos hk];rfl
theorem S3 (h:j<L.length)(hk:2<(L.getD j default).kind)(ho:l6 (L.take j)=false):l6 (L.take (j+1))=cP (L.getD j default):=by
 unfold l6 at ho ⊢;rw[jq h,ho];unfold xV;rw[if_neg ace,if_pos hk];rfl
theorem S4 (h:j<L.length)(hk:¬(L.getD j default).kind=1)(h2:¬2<(L.getD j default).kind):l6 (L.take (j+1))=l6 (L.take j):=by
 unfold l6;rw[jq h];unfold xV;rw[if_neg hk,if_neg h2]
theorem S5 (h:j<L.length)(hk:(L.getD j default).kind=1):qS (L.take (j+1))=true:=by
 unfold qS;rw[bD h,ab8,List.any_cons,decide_eq_true hk,Bool.true_or,Bool.or_true]
theorem F3 (h:j<L.length)(hk:¬(L.getD j default).kind=1):qS (L.take (j+1))=qS (L.take j):=by
 unfold qS;rw[bD h,ab8,List.any_cons,decide_eq_false hk,List.any_nil,Bool.or_false,Bool.or_false]
def o3 (L:List Rx)(j k v:Nat):Bool:=OE (L.take j) v||((L.getD j default).syms.take k).any fun z=>decide (z=(v:Int))
theorem Pz:o3 L j 0=OE (L.take j):=by funext v;unfold o3;simp
theorem M8 (h:j<L.length)(hk:(L.getD j default).syms.length≤k):OE (L.take (j+1))=o3 L j k:=by
 funext v;unfold o3;rw[aaj hk]
 show List.any _ _=(List.any _ _||_)
 rw[bD h,ab8,List.any_cons,List.any_nil,Bool.or_false]
theorem F4 (h:k<(L.getD j default).syms.length)(v:Nat):o3 L j (k+1) v=(o3 L j k v||decide ((L.getD j default).syms.getD k default=(v:Int))):=by
 unfold o3;rw[bD h,ab8,List.any_cons,List.any_nil,Bool.or_false,Bool.or_assoc]
def il (f:Nat→Bool):List SV:=(List.range 64).map fun v=>vvw (bool (f v))
theorem oG (f:Nat→Bool):(il f).length=64:=by unfold il;rw[Z0,aai]
theorem rU {f:Nat→Bool}(h:v<64):(il f)[v]?=some (vvw (bool (f v))):=by
 unfold il;rw[Z6,aa5 h];rfl
theorem Jz {f:Nat→Bool}(h:v<64):(il f)[0+(v:Int).toNat]?=some (vvw (bool (f v))):=by
 rw[show 0+(v:Int).toNat=v by omega];exact rU h
theorem DW (id:Nat)(f:Nat→Bool):c3 id (il f)=il f:=by
 unfold c3 il
 rw[abY]
 rfl
theorem DX (id:Nat)(h:k<(L.getD j default).syms.length)(hz:0≤(L.getD j default).syms.getD k default∧(L.getD j default).syms.getD k default<64) :
  qW (c3 id (il (o3 L j k))) (0+((L.getD j default).syms.getD k default).toNat) [vvw (bool true)]=il (o3 L j (k+1)):=by
 rw[DW]
 refine aa0 fun n=>?_
 rw[fm (by rw[oG];simp only[aaY];omega)]
 rcases aaq n 64 with hn|hn
 ·rw[rU hn,rU hn,F4 h]
  split
  ·next q =>
   rw[aaY] at q
   have e:n=((L.getD j default).syms.getD k default).toNat:=ace
   rw[show n-(0+((L.getD j default).syms.getD k default).toNat)=0 by omega,decide_eq_true (show(L.getD j default).syms.getD k default=(n:Int) by omega),Bool.or_true];rfl
  ·next q =>
   rw[aaY] at q
   rw[decide_eq_false (show ¬(L.getD j default).syms.getD k default=(n:Int) by omega),Bool.or_false]
 ·rw[if_neg (by simp only[aaY];omega),aaz (by rw[oG];exact hn),aaz (by rw[oG];exact hn)]
theorem PA (h:OE L v=true):fC L (v+1)=fC L v++[(v:Int)]:=by
 unfold fC;rw[aaP,aaW,abS h,Z8];rfl
theorem PB (h:OE L v=false):fC L (v+1)=fC L v:=by
 unfold fC;rw[aaP,aaW,abB (by rw[h];decide),abp,aav]
theorem PC (h:0<(fC L 64).length):l7 L=pQ (l5 L) (.mk 2 (fC L 64) []):=if_pos h
theorem PD (h:¬0<(fC L 64).length):l7 L=l5 L:=if_neg h
theorem PE (h:qS L=true)(h2:l6 L=false):mL L=pQ (l7 L) eE:=if_pos ⟨h,h2⟩
theorem PF (h:qS L=false):mL L=l7 L:=if_neg fun q=>by rw[h] at q;cases q.1
theorem PH (h:l6 L=true):mL L=l7 L:=if_neg fun q=>by rw[h] at q;cases q.2
end
def rV (x:Rx):Rx:=if x.kind=4 then pR (x.kids.filter fun y=>!decide (y.kind=1)) else x
theorem M9 {x:Rx}(h:x.kind=4):rV x=pR (x.kids.filter fun y=>!decide (y.kind=1)):=if_pos h
theorem Na {x:Rx}(h:¬x.kind=4):rV x=x:=if_neg h
theorem PI {x:Rx}(h:x.kind=0∨x.kind=1):rh x=eE:=if_pos h
theorem PJ {x:Rx}(h:¬(x.kind=0∨x.kind=1))(h5:x.kind=5):rh x=x:=by unfold rh;rw[if_neg h,if_pos h5]
theorem PK {x:Rx}(h:¬(x.kind=0∨x.kind=1))(h5:¬x.kind=5):rh x=.mk 5 [] [rV x]:=by unfold rh;rw[if_neg h,if_neg h5];rfl
theorem S6 {p:Rx→Bool}{l:List Rx}{i:Nat}(h:i<l.length)(hp:p (l.getD i default)=true):(l.take (i+1)).filter p=(l.take i).filter p++[l.getD i default]:=by
 rw[bD h,aaW,abS hp];rfl
theorem S7 {p:Rx→Bool}{l:List Rx}{i:Nat}(h:i<l.length)(hp:p (l.getD i default)=false):(l.take (i+1)).filter p=(l.take i).filter p:=by
 rw[bD h,aaW,abB (by rw[hp];decide),abp,aav]
abbrev Nb (y:Rx):Bool:=!decide (y.kind=1)
theorem Ut {y:Rx}(h:¬y.kind=1):Nb y=true:=by simp[h]
theorem Uu {y:Rx}(h:y.kind=1):Nb y=false:=by simp[h]
theorem oH (p:Rx→Bool)(l:List Rx):Rx.aB (l.filter p)≤Rx.aB l:=kD List.filter_sublist
theorem Nf.kids {x y:Rx}(h:Nf x)(hy:y∈x.kids):Nf y:=by
 cases h with
 | none=>cases hy
 | empty=>cases hy
 | set h=>cases hy
 | seq h1 h2 h3=>exact h2 y hy
 | alt h1 h2 h3 h4 h5 h6=>exact h2 y hy
 | star h1 h2 h3=>rw[aag.1 hy];exact h1
def vm (t:Bool)(r:Rx):List Rx:=if t=true∧r.kind=3 then(r.kids.map (aJ t)).reverse else r.kids.map (aJ t)
theorem HJ (t:Bool)(r:Rx):(vm t r).length=r.kids.length:=by unfold vm;split<;>simp
theorem Uv {t:Bool}{r:Rx}{i k:Nat}(ht:t=true)(h3:r.kind=3)(hi:i<r.kids.length)(hk:(k:Int)=(r.kids.length:Int)-1-i):(vm t r).getD i default=aJ t (r.kids.getD k default):=by
 unfold vm
 rw[if_pos ⟨ht,h3⟩,ZY,List.getElem?_reverse (by rw[Z0];exact hi),Z0,Z6,←show k=r.kids.length-1-i by omega,Z3 (show k<r.kids.length by omega),aaK,abK,dw ace]
theorem Uw {t:Bool}{r:Rx}{i:Nat}(h:¬(t=true∧r.kind=3))(hi:i<r.kids.length):(vm t r).getD i default=aJ t (r.kids.getD i default):=by
 unfold vm;rw[if_neg h,getD_map hi]
theorem JA (t:Bool)(r:Rx):Rx.aB (vm t r)≤2*Rx.aB r.kids:=by
 have:=vf t r.kids
 unfold vm;split
 ·rw[qA];exact this
 ·exact this
theorem BO {t:Bool}{r:Rx}(hv:aQ r=true):∀x∈vm t r,Nf x:=fun x hx=>by
 have:x∈r.kids.map (aJ t):=by
  unfold vm at hx;split at hx
  ·exact List.mem_reverse.1 hx
  ·exact hx
 obtain⟨y,hy,rfl⟩:=aao.1 this
 exact pK t y (ib hv y hy)
theorem Xo {t:Bool}{r:Rx}(h:r.kind=3):aJ t r=cU (vm t r):=by
 unfold vm
 cases t with
 | true=>rw[if_pos ⟨rfl,h⟩];exact nz h
 | false=>rw[if_neg (fun q=>by cases q.1)];exact lG h
theorem Xp {t:Bool}{r:Rx}(hv:aQ r=true)(h:r.kind=4):aJ t r=pR (vm t r):=by
 rw[wj (BO hv)];unfold vm;rw[if_neg fun q=>ace];exact kP h
theorem Xq {t:Bool}{r:Rx}(hv:aQ r=true)(h:r.kind=5):aJ t r=rh ((vm t r).getD 0 default):=by
 have hl:=(ly hv h).2
 rw[DV (BO hv _ (aP (by rw[HJ];omega)))];unfold vm;rw[if_neg fun q=>ace];exact kQ h
theorem Xr {t:Bool}{r:Rx}(hv:aQ r=true)(h3:¬r.kind=3)(h4:¬r.kind=4)(h5:¬r.kind=5):aJ t r=r:=by
 rw[jV h3 h4 h5]
 have hk:=pJ hv
 have:r.kids=[]:=by
  by_cases h2:r.kind=2
  ·rw[lU h2,aae] at hv
   exact aak (of_decide_eq_true hv.1)
  ·rw[jC ace,aae] at hv
   exact aak (of_decide_eq_true hv.2)
 rw[←this,←Rx.eta]
end Go.Wb
namespace Go.Am
open Go.RowKit
section
variable {P:Program} {w0:Fr}{M0:Nat→Prop}{o:Oper}{ρ:Operand→Option SV}{ob:List (Nat×Ob)}{x y:Operand}{T e:TypeId}{id off k:Nat}{cs:List SV}
theorem kF {caps:List qg}(ho:o.op=.load T x)(hT:bn P T=some true)(hk:bW P T=some k)(hx:ρ x=some (.pbox id off))(hl:ob.lookup id=some (.box e cs))(hle:Nat.ble (off+k) cs.length=true)(hv:(cs.drop off).take k=caps.map qg.sv) :
   Pure P w0 M0 o ρ ob (.hid Dc caps) :=
 aE fun E w ev hw h=>by
   have hr:=h x _ hx e cs hl
   have hle':=ZZ hle
   obtain⟨vals,h1,h2,h3,h4⟩:=hw.objs id _ hl
   have hcell:=run_loadCells (P:=P) w ⟨E.blk id,off,none⟩ k (fun j=>vals.getD (off+j) undef) (fun j hj=>by
     rw[Addr.add_lit,cell_of_row w _ (off+j) _ e (0,0) h1]
     have:off+j<vals.length:=ace
     simp[ZY,Z3 this])
   have hcl:caps.length=k:=by
     have:=congrArg List.length hv
     simp only[aaa,aad,Z0] at this
     omega
   have e1:(List.range k).map (fun j=>vals.getD (off+j) undef)=(vals.drop off).take k:=by
     apply aa0
     intro j
     simp only[Z6,aaG,abg]
     rcases aaq j k with hj|hj
     · rw [if_pos hj]
       have:off+j<vals.length:=ace
       simp[hj,ZY,Z3 this]
     · rw[if_neg ace];simp;omega
   refine⟨.agg ((vals.drop off).take k).toArray,w,?_,.refl _ _,(vals.drop off).take k,rfl,by rw[hcl];simp;omega,fun j c hc=>?_⟩
   · simp only[execOp,ho,hr,Instr.loadAt,Instr.sureAddr,loadVar,Sem.run_bind,dp hT,dx hk,Result.andThen_ok,Sem.run_pure,if_true,hcell,e1]
   · have hd : ((cs.drop off).take k)[j]? = some c.sv := by rw [hv, Z6, hc]; rfl
     rw[aaG] at hd
     split at hd
     · rename_i hj
       rw[abg] at hd
       have h5:=(h4 _ _ hd).2.2
       have e2:((vals.drop off).take k).getD j undef=vals.getD (off+j) undef:=by
         rw[ZY,aaG,if_pos hj,abg,←ZY]
       rw[e2]
       cases c with
       | bx i=>exact h5
       | pl d=>exact h5
       | ow i=>exact h5
       | om i=>exact h5
     · cases hd
theorem kG {cx:Operand}{ats:Array TypeId}{c c' c2:fQ}{f:FuncId}{caps:List qg}{ds:List AV}{d:AV}{r:AV}
   (ho:o.op=.call { callee:=.value cx,args:=#[x,y],argTypes:=ats })(hc:ρ cx=some (.v c (.clo f [])))(hx:ρ x=some (.hid Dc caps))(ha:jy ob (caps.map qg.sv)=some (c',ds))(hy:viewAt ρ ob y=some (c2,d))(h:aq P f [.agg ds,d] (.p r))
   (aa:∀b,M0 b→b<w0.w.heap.size):Pure P w0 M0 o ρ ob (.v .pl r):=by
 intro E w ev hw hh
 have hcv:=hh cx _ hc
 simp only[bo] at hcv
 obtain⟨vs,hvx,hvl,hvc⟩:=hh x _ hx
 obtain⟨g1,g2⟩:=lo hw (caps.map qg.sv) vs c' ds (by rw[hvl,Z0]) (fun j sv hd=>by
   rw[Z6] at hd
   cases hq:caps[j]? with
   | none=>rw[hq] at hd;cases hd
   | some q =>
     rw[hq] at hd
     simp only[aaK,Option.some.injEq] at hd
     subst hd
     have:=hvc j q hq
     cases q with
     | bx i=>exact this
     | pl d=>exact this
     | ow i=>exact this
     | om i=>exact this) ha
 have hyv:=cz hw hh hy
 generalize hq:ev cx=q at hcv
 cases hcv with
 | clo _ vs' _ hn hr =>
   have hn0:vs'=[]:=aak hn
   subst hn0
   unfold sn
   rw[ft ho hq h.1]
   refine⟨rfl,?_⟩
   have hall:=h.2 w [ev x,ev y] rfl (fun j d' hd=>?_)
   · have e1 : [ev x, ev y].toArray = (#[x, y] : Array Operand).map ev ++ ([] : List Value).toArray := by apply abz; simp
     rw[e1] at hall
     refine hall.mono fun e w' ⟨v,he,hb,hrv⟩=>⟨v,he,hb.to,?_⟩
     have hrep:=hrv.rep (fun b hb=>hb)
     refine hrep.ca fun b hb'=>?_
     rcases hb' with hb'|hb'
     · have:=aa b hb';have:=hw.below.size;omega
     · exact(hw.bK hb').2
   · match j with
     | 0 =>
       simp only[aat,Option.some.injEq] at hd
       subst hd
       show bJ w (fun _=>False) (ev x) (.agg ds)
       have hvx':ev x=.agg vs.toArray:=hvx
       rw[hvx']
       exact .agg vs ds (by rw[hvl,←g1,Z0]) (fun j d hd=>(g2 j d hd).1) (fun j d hd=>(g2 j d hd).2.ca fun b hb=>hb.elim)
     | 1 =>
       simp only[aa8,aat,Option.some.injEq] at hd
       subst hd
       exact hyv.ca fun b hb=>hb.elim
     | j+2=>simp at hd
end
end Go.Am
namespace Go.Wc
open Go.Am
theorem ta (l:List Int):3≤(ar l).length∧(ar l).length≤8:=by
 have:=k9 (l:=l) (i:=0) (most:=6) acg
 unfold ar;rw[oB];omega
end Go.Wc
