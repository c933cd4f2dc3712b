/-
  Part of the proof.
-/
import Derived.Test.YtlapahnodhmcpaaGreatJ0
import Derived.Test.YtlapahnodhmcpaaGreatJ13
import Derived.Test.YtlapahnodhmcpaaGreatJ6
import Derived.Test.YtlapahnodhmcpaaGreatJ10
set_option linter.unusedVariables false
set_option linter.unusedSectionVars false
set_option linter.unusedSimpArgs false
set_option maxRecDepth 100000
set_option maxHeartbeats 40000000
namespace Go.Am
open Go.RowKit
variable{f:FuncId}{ds:List AV}
section
variable {P:Program} {w0:Fr}{M0:Nat→Prop}
variable {o:Oper} {x y z:Operand}{T T' e:TypeId}{k b:Nat}{c:fW}{id off:Nat}{s:St}{t:Nat}{xs:List AV}
theorem bg {ρ:Operand→Option SV}{ob:List (Nat×Ob)}{cx:Operand}{args:Array Operand}{ats:Array TypeId}{c:fW}{caps:List AV}{d:AV}
 (ho:o.op=.call { callee:=.value cx,args:=args,argTypes:=ats })(hc:ρ cx=some (.v c (.clo f caps)))(ha:jg ρ ob args.toList=some ds)(h:ak P f (ds++caps) (.p d))
 (aa:∀b,M0 b→b<w0.w.heap.size):Pure P w0 M0 o ρ ob (.v .pl d):=cm (r:=.p d) ho hc ha h aa
theorem Ml {ρ:Operand→Option SV}{ob:List (Nat×Ob)}{u:Value}(h:Pure P w0 M0 o ρ ob (.v c (.sc u))):Pure P w0 M0 o ρ ob (.v .pl (.sc u)):=by
 intro E w ev hw hx;have h:=h E w ev hw hx;have key:∀(z:Value)(w':World),bm P M0 w' E ob z (.v c (.sc u))→bm P M0 w' E ob z (.v .pl (.sc u)):=fun z w' hr=>by
   have hr:bJ w' _ z (.sc u):=hr;show bJ w' _ z (.sc u);cases hr with|sc _ h1=>exact .sc _ h1
 unfold sQ at h ⊢;generalize (execOp ev o).run P w=r at *
 match r,h with
 | .ok (.value z) w',h=>exact⟨h.1,key z w' h.2⟩
 | .ok (.enter f args) w', h =>
   refine⟨h.1,h.2.mono fun e w'' ⟨z,he,hb,hz⟩=>⟨z,he,hb,key z w'' hz⟩⟩
end
section
variable {P:Program} {w0:Fr}{M0:Nat→Prop}{s:St}
end
section
variable {P:Program} {w0:Fr}{M0:Nat→Prop}{ops:Array Oper}
theorem Mm {α:Type}{id i:Nat}{x y:α}(h:[(id,x)].lookup i=some y):i=id∧y=x:=by
 rw[aj] at h;split at h
 ·rename_i e;simp only[aaj] at h;exact⟨e,h.symm⟩
 ·simp at h
theorem Mn {α:Type}{id:Nat}{x:α}:[(id,x)].lookup id=some x:=by rw[aj,if_pos rfl]
end
section
variable {P:Program} {w0:Fr}{M0:Nat→Prop}{s:St}{o:Oper}{id id2 t u j k b:Nat}{e r T:TypeId}{cs cs2:List Cell}{xs:List AV}{x y:Operand}
theorem np.none (E E':Env):np E E' .none .none:=⟨rfl,(fun j u hu=>by cases hu),(fun j u hu=>by cases hu)⟩
theorem DR {f:Nat→Value}{b:Nat}:fX f b [.row r xs] none↔(f 0).ownBlock=some b:=by
 constructor
 ·rintro⟨j,c,h1,_,h3⟩;cases j with
  | zero=>simp only[aaN,aaj] at h1;subst h1;exact h3
  | succ j=>simp at h1
 ·exact fun h=>⟨0,_,rfl,by simp,h⟩
theorem JJ (ho:o.op=.buildSlice T 1 #[(0,x)]) (hd:o.dst=some t) (hn:Nat.blt t s.n=true) (hpt:Nat.blt t 1000000=true) (hne:Nat.beq t u=false) (hnd:Nodup s.s=true) (hT:P.underlying T=some (.slice e)) (hel:iK P e 1 b=true) (hx:s.ev x=some (.own u)) (hl:s.o.lookup u=some (.arr r xs)) (aa:∀ b,M0 b→b<w0.w.heap.size) :
   Step P w0 M0 o s (({ n:=s.n,s:=s.s.filter (fun p=>p.2.stays true t&&p.2.stays true u),o:=ins t (.nar e [.row r xs] none) (ie u (iU (fun d=>d.stays true t&&d.stays true u) s.o)) }:St).put t (.nst t)):=by
 rintro a w Q ⟨E,hs⟩;obtain⟨i,z,hi,hz,hsz,hby,hzs,hk0,hck⟩:=gJ hel;have htu:t≠u:=fun q=>by rw[q,ab8] at hne;cases hne
 have hv:a.eval x=E.cur u:=hs.ev hx r xs hl;obtain⟨vals',h1,h2,h3⟩:=hs.wok.objs u _ hl;have hone:(E.cur u).cells=#[E.cur u]∧(E.cur u).oneCell'=true:=by
   rcases h1.1.2 with⟨q,_⟩|⟨g,cap,cur,q,_⟩<;>rw[q]<;>exact⟨rfl,rfl⟩
 have hrun:=pJ (P:=P) (w:=w) (n:=1) (parts:=[E.cur u]) (ps:=#[(0,x)].map fun(i,x)=>(i,a.eval x)) hT hel (by simp[hv]) rfl (fun v hv=>by rw[aay.1 hv,hone.1];rfl) acM acM;have hfm:([E.cur u].flatMap fun v=>v.cells.toList)=[E.cur u]:=by simp[hone.1]
 rw[hfm] at hrun;unfold Oper.wp;have hexec:(execOp a.eval o).run P w=.ok (.value (.slice (some ⟨w.heap.size,0,none⟩) 1 1)) (w.alloc (.cells [E.cur u].toArray e)):=by
   simp only[execOp,ho,Sem.run_bind,hrun,Result.andThen_ok,Sem.run_pure]
 rw[hexec];simp only[Oper.upon,hd];obtain⟨E',e1,e2,e3,e4,e5⟩:∃E':Env,E'.cur t=.slice (some ⟨w.heap.size,0,none⟩) 1 1∧(∀i,i≠t→E'.cur i=E.cur i)∧E'.blk=E.blk∧(E'.sub t=fun _=>E.cur u)∧(∀i,i≠t→E'.sub i=E.sub i) :=
   ⟨{ E with cur:=fun i=>if i=t then .slice (some ⟨w.heap.size,0,none⟩) 1 1 else E.cur i,sub:=fun i=>if i=t then fun _=>E.cur u else E.sub i },if_pos rfl,fun i hi=>if_neg hi,rfl,if_pos rfl,fun i hi=>if_neg hi⟩
 have hN:∀i q,(if i=t then some (some (Ob.nar e [.row r xs] none)) else if i=u then some none else none:Option (Option Ob))=some q→(i=t∧q=some (.nar e [.row r xs] none))∨(i=u∧q=none):=fun i q hq=>by
   by_cases h1:i=t
   · rw[if_pos h1] at hq;injection hq with hq;exact .inl ⟨h1,hq.symm⟩
   · rw [if_neg h1] at hq
     by_cases h2:i=u
     · rw[if_pos h2] at hq;injection hq with hq;exact .inr ⟨h2,hq.symm⟩
     · rw[if_neg h2] at hq;cases hq
 refine⟨E',ba.put ?_ (by simpa using hn) ⟨fun _ _ _ _=>e1.symm,fun ks c l hh=>?_⟩⟩
 · refine ba.xj (E' := E') (fun d => d.stays true t && d.stays true u) (fun i => if i = t then some (some (.nar e [.row r xs] none)) else if i = u then some none else none) _ (fun i => ?_) (fun d => rfl) (fun i ob hq hx => ?_) (fun i hq => ?_) hs hnd aa (fun i hq => ?_) (fun x hx => by rw [e3]) none (World.grownBy_alloc w _ none) (fun _ => aak _) (fun g hg => by cases hg) (fun i ob b' hq hb => ?_) (fun i ob i' ob' b' hq hq' hb hb' => ?_) (fun rep sv lents i ob hq => ?_)
   · rw [ax]
     by_cases q1:i=t
     · rw[if_pos q1,if_pos q1]
     · rw [if_neg q1, if_neg q1, c9]
       by_cases q2:i=u
       · rw[if_pos q2,if_pos q2]
       · rw[if_neg q2,if_neg q2];exact gk _ i s.o
   · rcases hN i _ hq with ⟨rfl, _⟩ | ⟨_, q⟩
     · obtain ⟨d, q1, q2⟩ := hx
       rw[hZ q1] at q2;cases q2
     · cases q
   · rcases hN i _ hq with ⟨_, q⟩ | ⟨rfl, _⟩
     · cases q
     · exact⟨e2 i (abi htu),by rw[e3]⟩
   · have hit : i ≠ t := fun q => by rw [if_pos q] at hq; cases hq
     exact⟨e2 i hit,by rw[e3],e5 i hit⟩
   · rcases hN i _ hq with ⟨rfl, q⟩ | ⟨_, q⟩
     · injection q with q; subst q
       rcases hb with hb|hb
       · rw[e1] at hb;simp only[Value.ownBlock,aaj] at hb;exact .inr acK
       · rw [e4] at hb
         exact .inl ⟨u,_,by rw[if_neg (abi htu),if_pos J];simp,hl,DR.1 hb⟩
     · cases q
   · rcases hN i _ hq with ⟨rfl, _⟩ | ⟨_, q⟩
     · rcases hN i' _ hq' with ⟨rfl, _⟩ | ⟨_, q⟩
       · rfl
       · cases q
     · cases q
   · rcases hN i _ hq with ⟨rfl, q⟩ | ⟨_, q⟩
     · injection q with q; subst q
       have hlt:∀b',(E.cur u).ownBlock=some b'→b'<w.heap.size:=fun b' q=>(h1.1.lt b' q).2
       refine⟨1,[E.cur u],?_,by rw[hck];rfl,fun j hj=>?_,⟨fun j c hc _=>?_,fun i1 i2 c1 c2 b' q1 q2 _ _ _ _=>?_,(fun j u' hu=>by cases hu),(fun j u' hu=>by cases hu)⟩,fun b' hb=>?_⟩
       · rw [e1, hck]
         exact⟨⟨rfl,.inr ⟨w.heap.size,1,[E.cur u].toArray,rfl,aan _,heap_alloc_new w _,aak _,by simp[maxLen],rfl,rfl⟩⟩,fun b' hb=>hs.wok.hJ aa (by simp only[Value.ownBlock,aaj] at hb;omega)⟩
       · have : j = 0 := by simp at hj; omega
         subst this;rw[e4];rfl
       · cases j with
         | zero =>
           simp only[aaN,aaj] at hc;subst hc;rw[e4];exact⟨vals',⟨h1.1.kept (World.grownBy_alloc w _ none) (by cases(E.cur u).ownBlock<;>simp),h1.2⟩,h2,fun k d hd=>⟨(h3 k d hd).1,rep .pl _ _ (h3 k d hd).2 (by simp)⟩⟩
         | succ j=>simp at hc
       · have : i1 < 1 := by have := (aaz.1 q1).1; simpa using this
         have:i2<1:=by have:=(aaz.1 q2).1;simpa using this
         omega
       · rw [e4] at hb
         have:=hlt b' (DR.1 hb);rw[e1];simp only[Value.ownBlock,ne_eq,aaj];omega
     · cases q
 · rw [show (ins t (Ob.nar e [.row r xs] none) (ie u (iU (fun d => d.stays true t && d.stays true u) s.o))).lookup t = _ from by rw [ax, if_pos rfl]] at hh
   cases hh
def xH (P:Program)(f:FuncId)(ds:List AV)(e:TypeId)(cs:List Cell):Prop :=
 cg P f∧∀(w:World)(vs:List Value),vs.length=ds.length→(∀(j:Nat) d,ds[j]?=some d→bJ w (fun _=>False) (vs.getD j undef) d) →
   Calls P f vs.toArray w fun q w'=>∃v,q=.returned v∧Below w.heap.size w w'∧∃E:Env,E.cur 0=v∧kT P (Fr.all w) (fun b=>b<w.heap.size) w' E [(0,.nar e cs none)] 0 (.nar e cs none)
def UM (t:Nat)(e:TypeId)(cs:List Cell):Exit→St→Prop
 | .normal,s|.ret,s=>∃id,s.s.lookup t=some (.nst id)∧s.o.lookup id=some (.nar e cs none)
 | _,_=>False
theorem nt {f n t:Nat}{c:Code}(hf:HO P f n t c)(hn:ds.length≤n)
  (h:∀(w0:Fr)(M0:Nat→Prop),(∀b,M0 b→b<w0.w.heap.size)→ao P w0 M0 c (St.enter n .mx ds) (UM t e cs)):xH P f ds e cs:=by
 refine⟨hf.bu,fun w vs hv hr=>?_⟩;have hc:=h (Fr.all w) (fun b=>b<w.heap.size) (fun b hb=>hb);rw[eU] at hc;obtain⟨fn,h1,h2,h3,h4,h5⟩:=hf;refine(dm h1 h2 h3 (R:=fun v E' s' w'=>gr P (Fr.all w) (fun b=>b<w.heap.size) E' s'.o w'∧∃id,bm P (fun b=>b<w.heap.size) w' E' s'.o v (.nst id)∧s'.o.lookup id=some (.nar e cs none)) (by simpa using hn) vs (by simpa using hv) jP (fun j d hd=>?_) hc (fun q s' a' w' E' hq hs=>?_)).mono fun q w' ⟨v,E',s',he,hw,id,hsv,hl⟩=>⟨v,he,hw.below.below,?_⟩
 ·rw[aap,aao] at hd;obtain⟨a,ha,rfl⟩:=hd;have:=hr j a ha;simp only[bm,ei];exact this
 ·have fin:(∃id,s'.s.lookup t=some (.nst id)∧s'.o.lookup id=some (.nar e cs none))→∃v,(results fn a'.tmps).run P w'=.ok v w'∧gr P (Fr.all w) (fun b=>b<w.heap.size) E' s'.o w'∧∃id,bm P (fun b=>b<w.heap.size) w' E' s'.o v (.nst id)∧s'.o.lookup id=some (.nar e cs none):=fun⟨id,q1,q2⟩ =>
   ⟨a'.tmps.getD t undef,by simp[results,h4],hs.wok,id,(hs.slots t _ q1).2,q2⟩
  cases q with
  | normal=>exact⟨.inl rfl,fin hq⟩
  | ret=>exact⟨.inr rfl,fin hq⟩
  | exit _=>exact hq.elim
  | goto _=>exact hq.elim
  | panic _=>exact hq.elim
  | outgrown=>exact hq.elim
 ·obtain⟨n',vals,g1,g2,g3,g4,g5⟩:=hw.objs id _ hl;refine⟨⟨fun _=>E'.cur id,fun _=>0,fun _=>E'.sub id⟩,(hsv.1 e cs none hl).symm,n',vals,g1,g2,g3,?_,g5⟩;have hown:∀b,owned (⟨fun _=>E'.cur id,fun _=>0,fun _=>E'.sub id⟩:Env) [(0,.nar e cs none)] b→owned E' s'.o b:=fun b ⟨i,ob,q1,q2⟩=>by
   obtain⟨rfl,rfl⟩:=Mm q1;exact⟨id,_,hl,q2⟩
  exact g4.go (np.none _ _) (fun _ _=>rfl) (fun _ _ hf=>hf) fun v d hr=>hr.cd fun b hb=>hb.imp (fun q=>q) (hown b)
theorem mg {cx:Operand} {args:Array Operand} {ats:Array TypeId} {c:fW}  {caps:List AV}
   (ho:o.op=.call { callee:=.value cx,args:=args,argTypes:=ats })(hd:o.dst=some t)(hn:Nat.blt t s.n=true)(hnd:Nodup s.s=true)(hc:s.ev cx=some (.v c (.clo f caps)))(ha:jg s.ev s.o args.toList=some ds)(h:xH P f (ds++caps) e cs)
   (aa:∀b,M0 b→b<w0.w.heap.size):Step P w0 M0 o s ((s.cC true t (.nar e cs none)).put t (.nst t)):=by
 rintro a w Q ⟨E,hs⟩;have hcv:=hs.ev hc;simp only[bm] at hcv;generalize hq:a.eval cx=q at hcv;cases hcv with
 | clo _ vs _ hnc hr =>
   have hv:=l5 hs.wok (fun x e hx=>hs.ev hx) _ _ ha;unfold Oper.wp;rw[fE ho hq h.1];simp only[Oper.upon];have hall:=h.2 w (args.toList.map a.eval++vs) (by simp[hv.1,hnc]) (fun j d hd=>?_)
   · have e1 : (args.toList.map a.eval ++ vs).toArray = args.map a.eval ++ vs.toArray := by apply ab1 ; simp
     rw[e1] at hall;refine hall.mono fun q w' ⟨v,he,hb,Ec,hv0,n',vals,g1,g2,g3,g4,g5⟩=>?_
     subst he;simp only[hd];obtain⟨E',f1,f2,f3,f4,f5⟩:∃E':Env,E'.cur t=v∧(∀i,i≠t→E'.cur i=E.cur i)∧E'.blk=E.blk∧E'.sub t=Ec.sub 0∧(∀i,i≠t→E'.sub i=E.sub i) :=
       ⟨{ E with cur:=fun i=>if i=t then v else E.cur i,sub:=fun i=>if i=t then Ec.sub 0 else E.sub i },if_pos rfl,fun i hi=>if_neg hi,rfl,if_pos rfl,fun i hi=>if_neg hi⟩
     have hblk:∀b',bE E' t b' (.nar e cs none)↔bE Ec 0 b' (.nar e cs none):=fun b'=>by simp only[bE,f1,f4,hv0]
     have hge:∀b',bE Ec 0 b' (.nar e cs none)→w.heap.size≤b':=fun b' hb'=>by
       rcases hb' with hb'|hb'
       · exact acn (g1.2 b' hb').2
       · exact acn (g4.range hb').1.2
     refine⟨E',ba.put ?_ (by simpa[St.cC] using hn) ⟨fun _ _ _ _=>f1.symm,fun ks c' l hh=>?_⟩⟩
     · refine hs.cC true (fun q => by cases q) hnd aa (fun i hi => ⟨f2 i hi, by rw [f3]⟩) (.inr (by rw [f3])) none (dy hb) (fun _ => hb.drawn trivial) (fun g hg => by cases hg) (fun b' hb' => .inr (hge b' ((hblk b').1 hb'))) (fun rep sv => ?_) f5
       refine⟨n',vals,?_,g2,by rw[f4];exact g3,?_,fun b' hb'=>?_⟩
       · rw [f1, ← hv0]
         exact⟨g1.1,fun b' hb'=>hs.wok.hJ aa (hge b' (.inl hb'))⟩
       · rw [f4]
         refine g4.go (np.none _ _) (fun _ _=>rfl) (fun b' hb' _=>hs.wok.hJ aa (hge b' (.inr hb'))) fun v' d hr'=>hr'.cd fun b' hb'=>?_
         rcases hb' with hb'|⟨i,ob,q1,q2⟩
         · have:=aa b' hb';have:=hs.wok.below.size;exact .inl acK
         · by_cases hi : i = t
           · subst hi
             rw[ax,if_pos rfl] at q1;simp only[aaj] at q1;subst q1;exact .inr ⟨0,_,Mn,(hblk b').1 q2⟩
           · rw [ax, if_neg hi, cr, aao] at q1
             obtain⟨ob0,q3,rfl⟩:=q1;refine .inl (hs.wok.bF ⟨i,ob0,q3,?_⟩).2;have q2:=iB.1 q2;cases ob0<;>simp only[bE,f2 i hi,f3,f5 i hi] at q2 ⊢<;>exact q2
       · rw [f4] at hb'
         rw[f1,←hv0];exact g5 b' hb'
     · rw [show ((s.cC true t (.nar e cs none)).o).lookup t = _ from by show (ins t _ _).lookup t = _; rw [ax, if_pos rfl]] at hh
       cases hh
   · rw [aag]
     rcases aaK j ds.length with hlt|hge
     · rw [aaH hlt] at hd
       have:=hv.2 j d hd;rw[aaH (by simp[hv.1];omega)];rwa [aag] at this
     · rw [aaE hge] at hd
       have:=hr _ d hd;rw[aaE (by simp[hv.1];omega)];simp only[aai,hv.1];rw[aag] at this;exact this.cd (fun b hb=>hb.elim)
end
variable{v:Value}
section
variable {P:Program} {w0:Fr}{M0:Nat→Prop}{s:St}{o:Oper}{id id2 t u j k b:Nat}{e r T:TypeId}{cs cs2:List Cell}{xs:List AV}{x y:Operand}
theorem Mo {w:World}{E:Env}{o:List (Nat×Ob)}{c:Cell}(h:nn P w0 M0 w E o v c):v.oneCell'=true:=by
 cases c with
 | d x=>exact h.2.one h.1
 | row e xs =>
   obtain⟨vals,h1,_⟩:=h;rcases h1.1.2 with⟨q,_⟩|⟨g,cap,cur,q,_⟩<;>rw[q]<;>rfl
 | mp ks vs=>obtain⟨b,q,_⟩:=h;rw[q];rfl
theorem Mp {f:Nat→Value}{b:Nat}:fX f b (cs++cs2) none↔fX f b cs none∨fX (fun j=>f (cs.length+j)) b cs2 none:=by
 constructor
 ·rintro⟨j,c,h1,_,h3⟩;rcases aaK j cs.length with q|q
  ·rw[aaH q] at h1;exact .inl ⟨j,c,h1,by simp,h3⟩
  ·rw[aaE q] at h1;exact .inr ⟨j-cs.length,c,h1,by simp,by show Dg (f (cs.length+(j-cs.length))) b c;rwa [show cs.length+(j-cs.length)=j by omega]⟩
 ·rintro(⟨j,c,h1,_,h3⟩|⟨j,c,h1,_,h3⟩)
  ·exact⟨j,c,by rw[aaH (aaz.1 h1).1];exact h1,by simp,h3⟩
  ·exact⟨cs.length+j,c,by rw[aaE acK,show cs.length+j-cs.length=j by omega];exact h1,by simp,h3⟩
theorem JK (ho:o.op=.call { callee:=.builtin .append,args:=#[x,y],argTypes:=#[T,T] }) (hd:o.dst=some t) (hn:Nat.blt t s.n=true) (hne:Nat.beq id id2=false) (hnd:Nodup s.s=true) (hT:P.underlying T=some (.slice e)) (hel:iK P e 1 b=true)
   (hx:s.ev x=some (.nst id))(hl:s.o.lookup id=some (.nar e cs none))(hy:s.ev y=some (.nst id2))(hl2:s.o.lookup id2=some (.nar e cs2 none))(h2:0<cs2.length)(hb:(cs.length+cs2.length)*b≤140737488355328)(hm:cs.length+cs2.length≤4611686018427387904)(aa:∀b,M0 b→b<w0.w.heap.size) :
   Step P w0 M0 o s (({ n:=s.n,s:=s.s.filter (fun p=>p.2.stays true id&&p.2.stays true id2),o:=ins id (.nar e (cs++cs2) none) (ie id2 (iU (fun d=>d.stays true id&&d.stays true id2) s.o)) }:St).put t (.nst id)):=by
 rintro a w Q ⟨E,hs⟩;obtain⟨i,z,hi,hz,hsz,hby,hzs,hk0,hck⟩:=gJ hel;have hdd:id≠id2:=fun q=>by rw[q,ab8] at hne;cases hne
 have hxv:a.eval x=E.cur id:=(hs.ev hx).1 e cs none hl;have hyv:a.eval y=E.cur id2:=(hs.ev hy).1 e cs2 none hl2;obtain⟨n1,vals1,p1,p2,p3,p4,p5⟩:=hs.wok.objs id _ hl;obtain⟨n2,vals2,q1,q2,q3,q4,q5⟩:=hs.wok.objs id2 _ hl2;rw[hck,abJ] at p2 q2;rw[hck] at p1 q1;subst p2;subst q2;have hv1:vals1.length=cs.length:=by rw[p1.1.1,abJ]
 have hv2:vals2.length=cs2.length:=by rw[q1.1.1,abJ]
 obtain⟨g,cap,hsl⟩:∃g cap,E.cur id2=.slice (some ⟨g,0,none⟩) cs2.length cap:=by
   rcases q1.1.2 with⟨q,h0⟩|⟨g,cap,cur,q,_⟩
   · omega
   · exact⟨g,cap,q⟩
 have hone:∀v∈vals2,v.oneCell'=true:=fun v hv=>by
   obtain⟨j,hj,rfl⟩:=abd hv;have hj':j<cs2.length:=acK;have:=Mo (q4.ok j _ (aal hj') (by simp));rw[←q3 j hj',aag,aal hj] at this;exact this
 obtain⟨v',w',hrun,hown',hg,_,hblk⟩:=run_append_own_at (P:=P) w 0 T o.type e i z 1 b hT hi hz hsz hby hzs hk0 (E.cur id) cs.length vals1 p1.1 ⟨g,0,none⟩ cs2.length cap vals2 (by rw[hv2,abJ])
   (fun j v hv=>by have:=q1.1.cells (g:=g) (by rw[hsl];rfl) j v hv;exact this) hone (by simp only[maxLen];omega) hb (aan _)
 unfold Oper.wp;have hexec:(execOp a.eval o).run P w=.ok (.value v') w':=by
   simp[execOp,ho,resolve,invoke,builtin,hxv,hyv,hsl,hrun]
 rw[hexec];simp only[Oper.upon,hd];obtain⟨E',e1,e2,e3,e4,e5⟩:∃E':Env,E'.cur id=v'∧(∀i,i≠id→E'.cur i=E.cur i)∧E'.blk=E.blk∧(E'.sub id=fun j=>if j<cs.length then E.sub id j else E.sub id2 (j-cs.length))∧(∀i,i≠id→E'.sub i=E.sub i) :=
   ⟨{ E with cur:=fun i=>if i=id then v' else E.cur i,sub:=fun i=>if i=id then fun j=>if j<cs.length then E.sub id j else E.sub id2 (j-cs.length) else E.sub i },if_pos rfl,fun i hi=>if_neg hi,rfl,if_pos rfl,fun i hi=>if_neg hi⟩
 have hN:∀i q,(if i=id then some (some (Ob.nar e (cs++cs2) none)) else if i=id2 then some none else none:Option (Option Ob))=some q→(i=id∧q=some (.nar e (cs++cs2) none))∨(i=id2∧q=none):=fun i q hq=>by
   by_cases h1:i=id
   · rw[if_pos h1] at hq;injection hq with hq;exact .inl ⟨h1,hq.symm⟩
   · rw [if_neg h1] at hq
     by_cases h2:i=id2
     · rw[if_pos h2] at hq;injection hq with hq;exact .inr ⟨h2,hq.symm⟩
     · rw[if_neg h2] at hq;cases hq
 have hs1:∀b',fX (E'.sub id) b' (cs++cs2) none→fX (E.sub id) b' cs none∨fX (E.sub id2) b' cs2 none:=fun b' hb'=>by
   rcases Mp.1 hb' with⟨j,c,r1,r2,r3⟩|⟨j,c,r1,r2,r3⟩
   · rw [e4] at r3
     simp only[if_pos (aaz.1 r1).1] at r3;exact .inl ⟨j,c,r1,r2,r3⟩
   · rw [e4] at r3
     simp only[if_neg (show ¬cs.length+j<cs.length by omega),show cs.length+j-cs.length=j by omega] at r3;exact .inr ⟨j,c,r1,r2,r3⟩
 have apart:∀b',bE E id b' (.nar e cs none)→bE E id2 b' (.nar e cs2 none)→False:=fun b' r1 r2=>hdd (hs.wok.disj id _ id2 _ b' hl hl2 r1 r2)
 have hrow:∀b',v'.ownBlock=some b'→bE E id b' (.nar e cs none)∨w.heap.size≤b':=fun b' hb'=>by
   rcases hblk with q|q
   · rw[q] at hb';exact .inl (.inl hb')
   · rw[q] at hb';simp only[aaj] at hb';exact .inr acK
 refine⟨E',ba.put ?_ (by simpa using hn) ⟨fun _ _ _ _=>e1.symm,fun ks c l hh=>?_⟩⟩
 · refine ba.xj (E' := E') (fun d => d.stays true id && d.stays true id2) (fun i => if i = id then some (some (.nar e (cs ++ cs2) none)) else if i = id2 then some none else none) _ (fun i => ?_) (fun d => rfl) (fun i ob hq hx => ?_) (fun i hq => ?_) hs hnd aa (fun i hq => ?_) (fun x hx => by rw [e3]) (E.cur id).ownBlock hg (fun _ => lQ _ _ _ _ hrun) (fun g' hg' => ⟨id, _, by rw [if_pos J]; simp, hl, .inl hg'⟩) (fun i ob b' hq hb' => ?_) (fun i ob i' ob' b' hq hq' hb hb' => ?_) (fun rep sv lents i ob hq => ?_)
   · rw [ax]
     by_cases r1:i=id
     · rw[if_pos r1,if_pos r1]
     · rw [if_neg r1, if_neg r1, c9]
       by_cases r2:i=id2
       · rw[if_pos r2,if_pos r2]
       · rw[if_neg r2,if_neg r2];exact gk _ i s.o
   · rcases hN i _ hq with ⟨rfl, _⟩ | ⟨_, q⟩
     · obtain ⟨d, r1, r2⟩ := hx
       rw[hZ r1] at r2;cases r2
     · cases q
   · rcases hN i _ hq with ⟨_, q⟩ | ⟨rfl, _⟩
     · cases q
     · exact⟨e2 i (abi hdd),by rw[e3]⟩
   · have hit : i ≠ id := fun q => by rw [if_pos q] at hq; cases hq
     exact⟨e2 i hit,by rw[e3],e5 i hit⟩
   · rcases hN i _ hq with ⟨rfl, q⟩ | ⟨_, q⟩
     · injection q with q; subst q
       rcases hb' with hb'|hb'
       · rw [e1] at hb'
         rcases hrow b' hb' with q|q
         · exact .inl ⟨i,_,by rw[if_pos J];simp,hl,q⟩
         · exact .inr q
       · rcases hs1 b' hb' with q | q
         · exact .inl ⟨i,_,by rw[if_pos J];simp,hl,.inr q⟩
         · exact .inl ⟨id2,_,by rw[if_neg (abi hdd),if_pos J];simp,hl2,.inr q⟩
     · cases q
   · rcases hN i _ hq with ⟨rfl, _⟩ | ⟨_, q⟩
     · rcases hN i' _ hq' with ⟨rfl, _⟩ | ⟨_, q⟩
       · rfl
       · cases q
     · cases q
   · rcases hN i _ hq with ⟨rfl, q⟩ | ⟨_, q⟩
     · injection q with q; subst q
       have hlt1:∀b',fX (E.sub i) b' cs none→b'<w.heap.size:=fun b' q=>(p4.range q).2
       have hlt2:∀b',fX (E.sub id2) b' cs2 none→b'<w.heap.size:=fun b' q=>(q4.range q).2
       have hnr:∀b',fX (E.sub i) b' cs none∨fX (E.sub id2) b' cs2 none→some b'≠(E.cur i).ownBlock:=fun b' q he=>by
         rcases q with q|q
         · exact p5 b' q he.symm
         · exact apart b' (.inl he.symm) (.inr q)
       have hcell:∀(j:Nat) c,(cs++cs2)[j]?=some c→(j<cs.length∧cs[j]?=some c∧E'.sub i j=E.sub i j)∨(cs.length≤j∧cs2[j-cs.length]?=some c∧E'.sub i j=E.sub id2 (j-cs.length)):=fun j c hc=>by
         rcases aaK j cs.length with q|q
         · rw [aaH q] at hc
           exact .inl ⟨q,hc,by rw[e4];exact if_pos q⟩
         · rw [aaE q] at hc
           exact .inr ⟨q,hc,by rw[e4];exact if_neg acK⟩
       refine⟨cs.length+cs2.length,vals1++vals2,?_,by rw[hck,abJ,aar],fun j hj=>?_,⟨fun j c hc _=>?_,fun i1 i2 c1 c2 b' r1 r2 _ _ r5 r6=>?_,(fun j u' hu=>by cases hu),(fun j u' hu=>by cases hu)⟩,fun b' hb'=>?_⟩
       · rw [e1, hck]
         refine⟨hown',fun b' hb'=>?_⟩;rcases hrow b' hb' with q|q
         · exact(kT.dx (hs.wok.objs i _ hl) q).1
         · exact hs.wok.hJ aa q
       · rw [show E'.sub i j = if j < cs.length then E.sub i j else E.sub id2 (j - cs.length) from congrFun e4 j, aag]
         rw[aar] at hj;rcases aaK j cs.length with q|q
         · rw[aaH acK,if_pos q,←aag];exact p3 j q
         · rw[aaE acK,if_neg acK,hv1,←aag];exact q3 _ acK
       · rcases hcell j c hc with ⟨r1, r2, r3⟩ | ⟨r1, r2, r3⟩
         · rw [r3]
           exact(p4.ok j c r2 (by simp)).go (fun b' hb'=>hg.block b' (hlt1 b' ⟨j,c,r2,by simp,hb'⟩) (hnr b' (.inl ⟨j,c,r2,by simp,hb'⟩))) (fun _ _ hf=>hf) (fun v d hr=>rep .pl v d hr (by simp))
         · rw [r3]
           exact(q4.ok _ c r2 (by simp)).go (fun b' hb'=>hg.block b' (hlt2 b' ⟨_,c,r2,by simp,hb'⟩) (hnr b' (.inr ⟨_,c,r2,by simp,hb'⟩))) (fun _ _ hf=>hf) (fun v d hr=>rep .pl v d hr (by simp))
       · rcases hcell i1 c1 r1 with ⟨a1, a2, a3⟩ | ⟨a1, a2, a3⟩
         · rcases hcell i2 c2 r2 with ⟨b1, b2, b3⟩ | ⟨b1, b2, b3⟩
           · rw [a3] at r5; rw [b3] at r6
             exact p4.apart i1 i2 c1 c2 b' a2 b2 (by simp) (by simp) r5 r6
           · rw [a3] at r5; rw [b3] at r6
             exact(apart b' (.inr ⟨i1,c1,a2,by simp,r5⟩) (.inr ⟨_,c2,b2,by simp,r6⟩)).elim
         · rcases hcell i2 c2 r2 with ⟨b1, b2, b3⟩ | ⟨b1, b2, b3⟩
           · rw [a3] at r5; rw [b3] at r6
             exact(apart b' (.inr ⟨i2,c2,b2,by simp,r6⟩) (.inr ⟨_,c1,a2,by simp,r5⟩)).elim
           · rw [a3] at r5; rw [b3] at r6
             have:=q4.apart _ _ c1 c2 b' a2 b2 (by simp) (by simp) r5 r6;omega
       · intro hb2
         rw[e1] at hb2;rcases hs1 b' hb' with q|q
         · rcases hrow b' hb2 with r1 | r1
           · rcases hblk with h0 | h0
             · rw[h0] at hb2;exact p5 b' q hb2
             · rw[h0] at hb2;simp only[aaj] at hb2;have:=hlt1 b' q;omega
           · have:=hlt1 b' q;omega
         · rcases hrow b' hb2 with r1 | r1
           · exact apart b' r1 (.inr q)
           · have:=hlt2 b' q;omega
     · cases q
 · rw [show (ins id (Ob.nar e (cs ++ cs2) none) (ie id2 (iU (fun d => d.stays true id && d.stays true id2) s.o))).lookup id = _ from by rw [ax, if_pos rfl]] at hh
   cases hh
end
section
variable {P:Program} {w0:Fr}{M0:Nat→Prop}{s:St}{o:Oper}{id id2 t u j k b:Nat}{e r T:TypeId}{cs cs2:List Cell}{xs:List AV}{x y:Operand}{E:Env}{a:Act}{w:World}
def Cell.av:Cell→AV
 | .d x=>x
 | .row _ xs=>.sl xs
 | .mp ks vs=>.mp ks vs
theorem sP.rep {o:List (Nat×Ob)}{M:Nat→Prop}(h:sP P w0 M0 w E o e xs v)(hd:∀v d,bJ w (cB M0 (owned E o) .pl) v d→bJ w M v d)(hb:∀g,v.ownBlock=some g→¬M g):bJ w M v (.sl xs):=by
 obtain⟨vals,h1,h2,h3⟩:=h;have hfl:=bO xs h2;obtain⟨⟨hl,h1'⟩,hfree⟩:=h1;rcases h1' with⟨hv,hn⟩|⟨g,cap,cur,hv,hg,hh,hnc,hcm,hcs,htake⟩
 ·rw[hv];have:xs=[]:=aaD hn;subst this;exact .sl none 0 0 [] (P.cellsOf e) (fun _=>undef) J (aak _) h2 (fun h=>absurd h acK) (fun j d hd=>by simp[flat] at hd) (fun j d hd=>by simp[flat] at hd)
 ·have hown:w.ownsRow 0 e (P.cellsOf e) v xs.length vals:=⟨hl,.inr ⟨g,cap,cur,hv,hg,hh,hnc,hcm,hcs,htake⟩⟩;have hob:v.ownBlock=some g:=by rw[hv];rfl
  rw[hv];refine .sl _ _ _ _ (P.cellsOf e) (fun j=>vals.getD j undef) J hnc h2 (fun h0=>⟨g,0,rfl,hb g hob,(hown.lt g hob).2,fun j hj=>?_⟩) (fun j d hj=>(h3 j d hj).1) (fun j d hj=>hd _ _ (h3 j d hj).2);have hj':j<vals.length:=by rw[hl];exact hj
  have:=hown.cells hob j vals[j] (aal hj');rw[Addr.add_lit] at this;rw[this,aag,aal hj'];rfl
theorem nn.rep {o:List (Nat×Ob)}{M:Nat→Prop}{c:Cell}(h:nn P w0 M0 w E o v c)(hd:∀v d,bJ w (cB M0 (owned E o) .pl) v d→bJ w M v d)(hb:∀g,Dg v g c→¬M g):bJ w M v c.av:=by
 cases c with
 | d x=>exact hd _ _ h.2
 | row e xs=>exact sP.rep h hd hb
 | mp ks vs =>
   obtain⟨g,q,es,clock,h1,h2,h3,h4,h5⟩:=h;rw[q];exact .mp g es clock ks vs (hb g q) (gu h1) h1 h3 h4 fun j d hj=>hd _ _ (h5 j d hj)
theorem HY {o:List (Nat×Ob)}{c:Cell}(h:nn P w0 M0 w E o v c):AV.leaf c.av=true:=by
 cases c with
 | d x=>exact h.1
 | row e xs=>rfl
 | mp ks vs=>rfl
theorem oI {d:AV}(h:AV.leaf d=true):AV.cells d=[d]:=by cases d<;>first|rfl|cases h
theorem jD:∀ {l:List AV},(∀x∈l,AV.leaf x=true)→flat l=l
 | [],_=>rfl
 | x :: l, h => by
   have ih:=jD (l:=l) fun y hy=>h y (aav _ hy)
   unfold flat at ih ⊢;rw[abt,oI (h x aaq),ih];rfl
theorem ba.flatten (h:ba P w0 M0 E s a w)(hnd:Nodup s.s=true)(aa:∀b,M0 b→b<w0.w.heap.size)(hl:s.o.lookup id=some (.nar e cs none))(hck:P.cellsOf e=1):ba P w0 M0 E (s.cC true id (.arr e (cs.map Cell.av))) a w:=by
 obtain⟨n,vals,g1,g2,g3,g4,g5⟩:=h.wok.objs id _ hl;rw[hck,abJ] at g2;subst g2;refine h.cC true (fun q=>by cases q) hnd aa (fun i hi=>⟨rfl,rfl⟩) (.inr J) none ⟨rfl,rfl,rfl,aak _,fun _ _ _=>rfl⟩ (fun _=>aak _) (fun g hg=>by cases hg) (fun b hb=>.inl ⟨_,hl,.inl hb⟩) (fun rep sv=>?_);have hleaf:∀x∈cs.map Cell.av,AV.leaf x=true:=fun x hx=>by
  obtain⟨c,hc,rfl⟩:=aaG.1 hx;obtain⟨j,hj,rfl⟩:=abd hc;exact HY (g4.ok j _ (aal hj) (by simp))
 refine⟨vals,by rw[aai];exact g1,fun x hx=>by rw[oI (hleaf x hx),hck];rfl,fun j d hd=>?_⟩;rw[jD hleaf] at hd;refine⟨hleaf d (aaW hd),?_⟩;rw[aap,aao] at hd;obtain⟨c,hc,rfl⟩:=hd;have hj:j<cs.length:=(aaz.1 hc).1;rw[g3 j hj];refine(g4.ok j c hc (by simp)).rep (fun v d hr=>rep .pl v d hr (by simp)) fun g hg hm=>?_
 have hsub:fX (E.sub id) g cs none:=⟨j,c,hc,by simp,hg⟩;rcases hm with hm|⟨i,ob,q1,q2⟩
 ·exact(g4.range hsub).1.2 hm
 ·by_cases hi:i=id
  ·subst hi;rw[ax,if_pos rfl] at q1;simp only[aaj] at q1;subst q1;exact g5 g hsub q2
  ·rw[ax,if_neg hi,cr,aao] at q1;obtain⟨ob0,q3,rfl⟩:=q1;exact hi (h.wok.disj i ob0 id _ g q3 hl (iB.1 q2) (.inr hsub))
theorem JL (t:Nat)(aa:∀b,M0 b→b<w0.w.heap.size)(hnd:Nodup s.s=true)(ht:s.s.lookup t=some (.nst id))(hl:s.o.lookup id=some (.nar e cs none))(hk:bY P e=some 1):fF P w0 M0 s ((s.cC true id (.arr e (cs.map Cell.av))).put t (.own id)):=by rintro a w ⟨E,hs⟩;have h0:=hs.slots t _ ht;exact⟨E,(hs.flatten hnd aa hl (cL hk)).DD h0.1 fun _ _ _=>h0.2.1 e cs none hl⟩
theorem Gj {y:Code}{Q:Exit→St→Prop}(t:Nat)(aa:∀b,M0 b→b<w0.w.heap.size)(hnd:Nodup s.s=true)(ht:s.s.lookup t=some (.nst id))(hl:s.o.lookup id=some (.nar e cs none))(hk:bY P e=some 1)(h:ao P w0 M0 y ((s.cC true id (.arr e (cs.map Cell.av))).put t (.own id)) Q):ao P w0 M0 y s Q:=ao.imp (JL t aa hnd ht hl hk) h
theorem PO {e:TypeId}(rows:List (List AV)):(rows.map (Cell.row e)).map Cell.av=rows.map AV.sl:=by rw[aco];rfl
theorem xH.data (h:xH P f ds e cs)(hk:bY P e=some 1):ak P f ds (.p (.sl (cs.map Cell.av))) :=
 ⟨h.1, fun w vs hv hr => (h.2 w vs hv hr).mono fun q w' ⟨v, he, hb, E, hv0, n, vals, g1, g2, g3, g4, g5⟩ => ⟨v, he, hb, by
   rw[cL hk,abJ] at g2;subst g2;have hleaf:∀x∈cs.map Cell.av,AV.leaf x=true:=fun x hx=>by
     obtain⟨c,hc,rfl⟩:=aaG.1 hx;obtain⟨j,hj,rfl⟩:=abd hc;exact HY (g4.ok j _ (aal hj) (by simp))
   have hown0:∀g,(E.cur 0).ownBlock=some g→¬g<w.heap.size:=fun g hg q=>(g1.2 g hg).2 q
   show bJ w' _ v (.sl (cs.map Cell.av));rw[←hv0];obtain⟨⟨hl,h1'⟩,hfree⟩:=g1;have hwk:∀v d,bJ w' (cB (fun b=>b<w.heap.size) (owned E [(0,.nar e cs none)]) .pl) v d→bJ w' (fun b=>b<w.heap.size) v d:=fun v d hr=>hr.cd fun b hb=>.inl hb
   rw[cL hk] at h1' hl;rcases h1' with⟨hvn,hn⟩|⟨g,cap,cur,hvs,hg,hh,hnc,hcm,hcs,htake⟩
   · rw [hvn]
     have:cs=[]:=aaD hn;subst this;exact .sl none 0 0 [] 1 (fun _=>undef) J (aak _) (fun x hx=>by cases hx) (fun h=>absurd h acK) (fun j d hd=>by simp[flat] at hd) (fun j d hd=>by simp[flat] at hd)
   · have hown : w'.ownsRow 0 e 1 (E.cur 0) cs.length vals := ⟨hl, .inr ⟨g, cap, cur, hvs, hg, hh, hnc, hcm, hcs, htake⟩⟩
     have hob:(E.cur 0).ownBlock=some g:=by rw[hvs];rfl
     rw[hvs];refine .sl _ _ _ _ 1 (fun j=>vals.getD j undef) (by rw[aai]) hnc (fun x hx=>by rw[oI (hleaf x hx)];rfl) (fun h0=>⟨g,0,rfl,hown0 g hob,(hown.lt g hob).2,fun j hj=>?_⟩) (fun j d hd=>?_) (fun j d hd=>?_)
     · have hj' : j < vals.length := by rw [hl]; exact hj
       have:=hown.cells hob j vals[j] (aal hj');rw[Addr.add_lit] at this;rw[this,aag,aal hj'];rfl
     · rw[jD hleaf] at hd;exact hleaf d (aaW hd)
     · rw [jD hleaf, aap, aao] at hd
       obtain⟨c,hc,rfl⟩:=hd;have hj:j<cs.length:=(aaz.1 hc).1;rw[g3 j hj];exact(g4.ok j c hc (by simp)).rep hwk fun g' hg' q=>(g4.range ⟨j,c,hc,by simp,hg'⟩).1.2 q⟩⟩
end
section
variable {P:Program} {w0:Fr}{M0:Nat→Prop}{s:St}{t u j:Nat}{e r:TypeId}{cs cs':List Cell}{xs:List AV}{y:Code}{Q:Exit→St→Prop}
theorem Mq (id u:Nat)(aa:∀b,M0 b→b<w0.w.heap.size)(hnd:Nodup s.s=true)(hne:Nat.beq u id=false)(hl:s.o.lookup id=some (.nar e cs none))(hc:cs[j]?=some (.row r xs)) :
  fF P w0 M0 s { n:=s.n,s:=s.s.filter (fun p=>p.2.stays true u),o:=ins u (.arr r xs) (ins id (.nar e cs (some (j,.arr u))) (iH true u s.o)) }:=fun a w ⟨E,hs⟩=>by
 obtain⟨E',_,h⟩:=hs.borrow (u:=u) hnd aa hl hc (fun q=>by rw[q,ab8] at hne;cases hne);exact⟨E',h⟩
theorem qP (id u:Nat)(aa:∀b,M0 b→b<w0.w.heap.size)(hnd:Nodup s.s=true)(hne:Nat.beq u id=false)(hl:s.o.lookup id=some (.nar e cs none))(hc:cs[j]?=some (.row r xs))
 (h:ao P w0 M0 y { n:=s.n,s:=s.s.filter (fun p=>p.2.stays true u),o:=ins u (.arr r xs) (ins id (.nar e cs (some (j,.arr u))) (iH true u s.o)) } Q):ao P w0 M0 y s Q:=ao.imp (Mq id u aa hnd hne hl hc) h
theorem xI {id:Nat}(h:s.s.lookup t=some (.nst id))(h':s.o.lookup id=some (.nar e cs' none))(q:cs'=cs):UM t e cs .ret s:=⟨id,h,by rw[h',q]⟩
end
section
variable {P:Program} {w0:Fr}{M0:Nat→Prop}{s:St}{id:Nat}{e:TypeId}{cs:List Cell}{E:Env}{a:Act}{w:World}
theorem ba.XR (u:Nat)(h:ba P w0 M0 E s a w)(hnd:Nodup s.s=true)(aa:∀b,M0 b→b<w0.w.heap.size)(hl:s.o.lookup id=some (.nar e cs none))(hu:u≠id) :
  ∃E':Env,E'.cur u=E.cur id∧ba P w0 M0 E' { n:=s.n,s:=s.s.filter (fun p=>p.2.stays true u&&p.2.stays true id),o:=ins u (.nar e cs none) (ie id (iU (fun d=>d.stays true u&&d.stays true id) s.o)) } a w:=by
 obtain⟨n,vals,g1,g2,g3,g4,g5⟩:=h.wok.objs id _ hl;obtain⟨E',e1,e2,e3,e4,e5⟩:∃E':Env,E'.cur u=E.cur id∧(∀i,i≠u→E'.cur i=E.cur i)∧E'.blk=E.blk∧E'.sub u=E.sub id∧(∀i,i≠u→E'.sub i=E.sub i) :=
  ⟨{ E with cur:=fun i=>if i=u then E.cur id else E.cur i,sub:=fun i=>if i=u then E.sub id else E.sub i },if_pos rfl,fun i hi=>if_neg hi,rfl,if_pos rfl,fun i hi=>if_neg hi⟩
 have hN:∀i q,(if i=u then some (some (Ob.nar e cs none)) else if i=id then some none else none:Option (Option Ob))=some q→(i=u∧q=some (.nar e cs none))∨(i=id∧q=none):=fun i q hq=>by
  by_cases h1:i=u
  ·rw[if_pos h1] at hq;injection hq with hq;exact .inl ⟨h1,hq.symm⟩
  ·rw[if_neg h1] at hq;by_cases h2:i=id
   ·rw[if_pos h2] at hq;injection hq with hq;exact .inr ⟨h2,hq.symm⟩
   ·rw[if_neg h2] at hq;cases hq
 refine⟨E',e1,?_⟩;refine ba.xj (E':=E') (fun d=>d.stays true u&&d.stays true id) (fun i=>if i=u then some (some (.nar e cs none)) else if i=id then some none else none) _ (fun i=>?_) (fun d=>rfl) (fun i ob hq hx=>?_) (fun i hq=>?_) h hnd aa (fun i hq=>?_) (fun x hx=>by rw[e3]) none ⟨rfl,rfl,rfl,aak _,fun _ _ _=>rfl⟩ (fun _=>aak _) (fun g hg=>by cases hg) (fun i ob b hq hb=>.inl ?_) (fun i ob i' ob' b hq hq' hb hb'=>?_) (fun rep sv lents i ob hq=>?_)
 ·rw[ax];by_cases q1:i=u
  ·rw[if_pos q1,if_pos q1]
  ·rw[if_neg q1,if_neg q1,c9];by_cases q2:i=id
   ·rw[if_pos q2,if_pos q2]
   ·rw[if_neg q2,if_neg q2];exact gk _ i s.o
 ·rcases hN i _ hq with⟨rfl,_⟩|⟨_,q⟩
  ·obtain⟨d,q1,q2⟩:=hx;rw[hZ q1] at q2;cases q2
  ·cases q
 ·rcases hN i _ hq with⟨_,q⟩|⟨rfl,_⟩
  ·cases q
  ·exact⟨e2 i (abi hu),by rw[e3]⟩
 ·have hit:i≠u:=fun q=>by rw[if_pos q] at hq;cases hq
  exact⟨e2 i hit,by rw[e3],e5 i hit⟩
 ·rcases hN i _ hq with⟨rfl,q⟩|⟨_,q⟩
  ·injection q with q;subst q;refine⟨id,_,by rw[if_neg (abi hu),if_pos J];simp,hl,?_⟩;simpa only[bE,e1,e4] using hb
  ·cases q
 ·rcases hN i _ hq with⟨rfl,_⟩|⟨_,q⟩
  ·rcases hN i' _ hq' with⟨rfl,_⟩|⟨_,q⟩
   ·rfl
   ·cases q
  ·cases q
 ·rcases hN i _ hq with⟨rfl,q⟩|⟨_,q⟩
  ·injection q with q;subst q;refine⟨n,vals,by rw[e1];exact g1,g2,by rw[e4];exact g3,?_,by rw[e1,e4];exact g5⟩;rw[e4];exact g4.go (np.none _ _) (fun _ _=>rfl) (fun _ _ hf=>hf) (fun v d hr=>rep .pl v d hr (by simp))
  ·cases q
theorem Mr (t u:Nat)(aa:∀b,M0 b→b<w0.w.heap.size)(hnd:Nodup s.s=true)(ht:s.s.lookup t=some (.nst id))(hl:s.o.lookup id=some (.nar e cs none))(hne:Nat.beq u id=false) :
  fF P w0 M0 s (({ n:=s.n,s:=s.s.filter (fun p=>p.2.stays true u&&p.2.stays true id),o:=ins u (.nar e cs none) (ie id (iU (fun d=>d.stays true u&&d.stays true id) s.o)) }:St).put t (.nst u)):=by
 rintro a w ⟨E,hs⟩;have h0:=hs.slots t _ ht;obtain⟨E',e1,h1⟩:=hs.XR u hnd aa hl (fun q=>by rw[q,ab8] at hne;cases hne);refine⟨E',h1.DD h0.1 ⟨fun e' cs' ln hh=>by rw[e1];exact h0.2.1 e cs none hl,fun ks cs' ln hh=>?_⟩⟩;rw[show(ins u (Ob.nar e cs none) (ie id (iU (fun d=>d.stays true u&&d.stays true id) s.o))).lookup u=_ from by rw[ax,if_pos rfl]] at hh;cases hh
theorem PQ {ops:Array Oper}{Q:St→Prop}{l':List Oper}(t u:Nat)(aa:∀b,M0 b→b<w0.w.heap.size)(hnd:Nodup s.s=true)(ht:s.s.lookup t=some (.nst id))(hl:s.o.lookup id=some (.nar e cs none))(hne:Nat.beq u id=false)
 (h:kr P w0 M0 ops Q l' (({ n:=s.n,s:=s.s.filter (fun p=>p.2.stays true u&&p.2.stays true id),o:=ins u (.nar e cs none) (ie id (iU (fun d=>d.stays true u&&d.stays true id) s.o)) }:St).put t (.nst u))):kr P w0 M0 ops Q l' s:=kr.imp (Mr t u aa hnd ht hl hne) h
end
section
variable {P:Program} {w0:Fr}{M0:Nat→Prop}{ops:Array Oper}
end
end Go.Am
