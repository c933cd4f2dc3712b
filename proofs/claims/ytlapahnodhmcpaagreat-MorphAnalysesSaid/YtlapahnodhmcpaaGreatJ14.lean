/-
  Part of the proof.
-/
import Derived.Test.YtlapahnodhmcpaaGreatJ0
import Derived.Test.YtlapahnodhmcpaaGreatJ13
import Derived.Maps.Keyed
import Derived.Test.YtlapahnodhmcpaaGreatJ6
import Derived.Test.YtlapahnodhmcpaaGreatJ10
set_option linter.unusedVariables false
set_option linter.unusedSectionVars false
set_option linter.unusedSimpArgs false
set_option maxRecDepth 100000
set_option maxHeartbeats 40000000
namespace Go.Am
open Go.RowKit
section
variable {P:Program} {w0:Fr}{M0:Nat→Prop}{ops:Array Oper}{Q:St→Prop}
def rI (G X:List (Nat×SV))(o:Oper):List (Nat×SV):=match o.dst with
 | some t=>(match G.lookup t with|some d=>ins t d X|none=>X)
 | none=>X
theorem gZ {o:Oper}{G X:List (Nat×SV)}{o1 o2:List (Nat×Ob)}{T:TypeId}{n t:Nat}{zs:List Value}(ho:o.op=.alloc T)(hd:o.dst=some t)(hn:Nat.blt t n=true)(hpt:Nat.blt t 1000000=true)(hnd:Nodup X=true)(hz:zeroOf P T=some zs)(hzs:zs.all Value.oneCell'=true)
  (Sd:G.lookup t=some (.pbox t 0))(hs:∀t' d,X.lookup t'=some d→t'≠t→d.stays true t=true)(ho2:ins t (.box T (zs.map fun z=>.v .pl (.sc z))) (iE true t o1)=o2)(aa:∀b,M0 b→b<w0.w.heap.size) :
  ∃s',Step P w0 M0 o ⟨n,X,o1⟩ s'∧fJ P w0 M0 s' ⟨n,rI G X o,o2⟩:=by
 refine⟨_,cM (s:=⟨n,X,o1⟩) ho hd hn hpt hnd hz hzs aa,?_⟩
 have e:rI G X o=ins t (.pbox t 0) X:=by unfold rI;rw[hd];simp only[Sd]
 rw[e]
 refine eL J ho2.symm fun t' d ht'=>?_
 rw[ax] at ht'
 show(ins t (SV.pbox t 0) _).lookup t'=some d
 rw[ax]
 by_cases q:t'=t
 ·rw[if_pos q] at ht' ⊢;exact ht'
 ·rw[if_neg q] at ht' ⊢
  exact iz (fun e=>e.stays true t) X t' d hnd ht' (hs t' d ht' q)
theorem zK {G X:List (Nat×SV)}{o:Oper}(h:o.dst=none):rI G X o=X:=by unfold rI;rw[h]
theorem cr {o:Oper}{G X:List (Nat×SV)}{o1 o2:List (Nat×Ob)}{n:Nat}(hd:o.dst=none)(h:∃s',Step P w0 M0 o ⟨n,X,o1⟩ s'∧fJ P w0 M0 s' ⟨n,X,o2⟩):∃s',Step P w0 M0 o ⟨n,X,o1⟩ s'∧fJ P w0 M0 s' ⟨n,rI G X o,o2⟩:=by
 rw[zK hd];exact h
end
open Go.MapKept Go.ChangeMaps
section
variable {P:Program} {w0:Fr}{M0:Nat→Prop}
variable {o:Oper} {ρ:Operand→Option SV}{ob:List (Nat×Ob)}{d:SV}{x y z:Operand}{T T' e:TypeId}{k b:Nat}{c:fQ}{id off:Nat}{s:St}{t:Nat}{ks:List Value}{vs:List AV}{kt et:TypeId}{kd:TypeDesc}
end
section
variable {P:Program} {w0:Fr}{M0:Nat→Prop}
variable {o:Oper} {x y z:Operand}{T T' e:TypeId}{k b:Nat}{c:fQ}{id off:Nat}{s:St}{t:Nat}{xs:List AV}
theorem bC {ρ:Operand→Option SV}{ob:List (Nat×Ob)}{cx:Operand}{args:Array Operand}{ats:Array TypeId}{c:fQ}{f:FuncId}{caps ds:List AV}{d:AV}
 (ho:o.op=.call { callee:=.value cx,args:=args,argTypes:=ats })(hc:ρ cx=some (.v c (.clo f caps)))(ha:jd ρ ob args.toList=some ds)(h:aq P f (ds++caps) (.p d))
 (aa:∀b,M0 b→b<w0.w.heap.size):Pure P w0 M0 o ρ ob (.v .pl d):=cm (r:=.p d) ho hc ha h aa
theorem Lz {ρ:Operand→Option SV}{ob:List (Nat×Ob)}{u:Value}(h:Pure P w0 M0 o ρ ob (.v c (.sc u))):Pure P w0 M0 o ρ ob (.v .pl (.sc u)):=by
 intro E w ev hw hx
 have h:=h E w ev hw hx
 have key:∀(z:Value)(w':World),bo P M0 w' E ob z (.v c (.sc u))→bo P M0 w' E ob z (.v .pl (.sc u)):=fun z w' hr=>by
   have hr:bJ w' _ z (.sc u):=hr
   show bJ w' _ z (.sc u)
   cases hr with|sc _ h1=>exact .sc _ h1
 unfold sn at h ⊢
 generalize (execOp ev o).run P w=r at *
 match r,h with
 | .ok (.value z) w',h=>exact⟨h.1,key z w' h.2⟩
 | .ok (.enter f args) w', h =>
   refine⟨h.1,h.2.mono fun e w'' ⟨z,he,hb,hz⟩=>⟨z,he,hb,key z w'' hz⟩⟩
end
section
variable {P:Program} {w0:Fr}{M0:Nat→Prop}{s:St}
end
section
variable {P:Program} {w0:Fr}{M0:Nat→Prop}{ops:Array Oper}
theorem LA {α:Type}{id i:Nat}{x y:α}(h:[(id,x)].lookup i=some y):i=id∧y=x:=by
 rw[ak] at h
 split at h
 ·rename_i e;simp only[Option.some.injEq] at h;exact⟨e,h.symm⟩
 ·simp at h
theorem LB {α:Type}{id:Nat}{x:α}:[(id,x)].lookup id=some x:=by rw[ak,if_pos rfl]
end
section
variable {P:Program} {w0:Fr}{M0:Nat→Prop}{s:St}{o:Oper}{id id2 t u j k b:Nat}{e r T:TypeId}{cs cs2:List Cell}{xs:List AV}{x y:Operand}
theorem mX.none (E E':Env):mX E E' .none .none:=⟨rfl,(fun j u hu=>by cases hu),(fun j u hu=>by cases hu)⟩
theorem C6 {f:Nat→Value}{b:Nat}:fK f b [.row r xs] none↔(f 0).ownBlock=some b:=by
 constructor
 ·rintro⟨j,c,h1,_,h3⟩
  cases j with
  | zero=>simp only[aat,Option.some.injEq] at h1;subst h1;exact h3
  | succ j=>simp at h1
 ·exact fun h=>⟨0,_,rfl,by simp,h⟩
theorem I0 (ho:o.op=.buildSlice T 1 #[(0,x)]) (hd:o.dst=some t) (hn:Nat.blt t s.n=true) (hpt:Nat.blt t 1000000=true) (hne:Nat.beq t u=false) (hnd:Nodup s.s=true) (hT:P.underlying T=some (.slice e)) (hel:iS P e 1 b=true) (hx:s.ev x=some (.own u)) (hl:s.o.lookup u=some (.arr r xs)) (aa:∀ b,M0 b→b<w0.w.heap.size) :
   Step P w0 M0 o s (({ n:=s.n,s:=s.s.filter (fun p=>p.2.stays true t&&p.2.stays true u),o:=ins t (.nar e [.row r xs] none) (gY u (iR (fun d=>d.stays true t&&d.stays true u) s.o)) }:St).put t (.nst t)):=by
 rintro a w Q ⟨E,hs⟩
 obtain⟨i,z,hi,hz,hsz,hby,hzs,hk0,hck⟩:=iw hel
 have htu:t≠u:=fun q=>by rw[q,abJ] at hne;cases hne
 have hv:a.eval x=E.cur u:=hs.ev hx r xs hl
 obtain⟨vals',h1,h2,h3⟩:=hs.wok.objs u _ hl
 have hone:(E.cur u).cells=#[E.cur u]∧(E.cur u).oneCell'=true:=by
   rcases h1.1.2 with⟨q,_⟩|⟨g,cap,cur,q,_⟩<;>rw[q]<;>exact⟨rfl,rfl⟩
 have hrun:=pd (P:=P) (w:=w) (n:=1) (parts:=[E.cur u]) (ps:=#[(0,x)].map fun(i,x)=>(i,a.eval x)) hT hel (by simp[hv]) rfl (fun v hv=>by rw[aag.1 hv,hone.1];rfl) acg acg
 have hfm:([E.cur u].flatMap fun v=>v.cells.toList)=[E.cur u]:=by simp[hone.1]
 rw[hfm] at hrun
 unfold Oper.wp
 have hexec:(execOp a.eval o).run P w=.ok (.value (.slice (some ⟨w.heap.size,0,none⟩) 1 1)) (w.alloc (.cells [E.cur u].toArray e)):=by
   simp only[execOp,ho,Sem.run_bind,hrun,Result.andThen_ok,Sem.run_pure]
 rw[hexec]
 simp only[Oper.upon,hd]
 obtain⟨E',e1,e2,e3,e4,e5⟩:∃E':Env,E'.cur t=.slice (some ⟨w.heap.size,0,none⟩) 1 1∧(∀i,i≠t→E'.cur i=E.cur i)∧E'.blk=E.blk∧(E'.sub t=fun _=>E.cur u)∧(∀i,i≠t→E'.sub i=E.sub i) :=
   ⟨{ E with cur:=fun i=>if i=t then .slice (some ⟨w.heap.size,0,none⟩) 1 1 else E.cur i,sub:=fun i=>if i=t then fun _=>E.cur u else E.sub i },if_pos rfl,fun i hi=>if_neg hi,rfl,if_pos rfl,fun i hi=>if_neg hi⟩
 have hN:∀i q,(if i=t then some (some (Ob.nar e [.row r xs] none)) else if i=u then some none else none:Option (Option Ob))=some q→(i=t∧q=some (.nar e [.row r xs] none))∨(i=u∧q=none):=fun i q hq=>by
   by_cases h1:i=t
   · rw[if_pos h1] at hq;injection hq with hq;exact .inl ⟨h1,hq.symm⟩
   · rw [if_neg h1] at hq
     by_cases h2:i=u
     · rw[if_pos h2] at hq;injection hq with hq;exact .inr ⟨h2,hq.symm⟩
     · rw[if_neg h2] at hq;cases hq
 refine⟨E',a8.put ?_ (by simpa using hn) ⟨fun _ _ _ _=>e1.symm,fun ks c l hh=>?_⟩⟩
 · refine a8.wG (E' := E') (fun d => d.stays true t && d.stays true u) (fun i => if i = t then some (some (.nar e [.row r xs] none)) else if i = u then some none else none) _ (fun i => ?_) (fun d => rfl) (fun i ob hq hx => ?_) (fun i hq => ?_) hs hnd aa (fun i hq => ?_) (fun x hx => by rw [e3]) none (World.grownBy_alloc w _ none) (fun _ => Z1 _) (fun g hg => by cases hg) (fun i ob b' hq hb => ?_) (fun i ob i' ob' b' hq hq' hb hb' => ?_) (fun rep sv lents i ob hq => ?_)
   · rw [ax]
     by_cases q1:i=t
     · rw[if_pos q1,if_pos q1]
     · rw [if_neg q1, if_neg q1, c8]
       by_cases q2:i=u
       · rw[if_pos q2,if_pos q2]
       · rw[if_neg q2,if_neg q2];exact ga _ i s.o
   · rcases hN i _ hq with ⟨rfl, _⟩ | ⟨_, q⟩
     · obtain ⟨d, q1, q2⟩ := hx
       rw[gV q1] at q2;cases q2
     · cases q
   · rcases hN i _ hq with ⟨_, q⟩ | ⟨rfl, _⟩
     · cases q
     · exact⟨e2 i (aaX htu),by rw[e3]⟩
   · have hit : i ≠ t := fun q => by rw [if_pos q] at hq; cases hq
     exact⟨e2 i hit,by rw[e3],e5 i hit⟩
   · rcases hN i _ hq with ⟨rfl, q⟩ | ⟨_, q⟩
     · injection q with q; subst q
       rcases hb with hb|hb
       · rw[e1] at hb;simp only[Value.ownBlock,Option.some.injEq] at hb;exact .inr ace
       · rw [e4] at hb
         exact .inl ⟨u,_,by rw[if_neg (aaX htu),if_pos J];simp,hl,C6.1 hb⟩
     · cases q
   · rcases hN i _ hq with ⟨rfl, _⟩ | ⟨_, q⟩
     · rcases hN i' _ hq' with ⟨rfl, _⟩ | ⟨_, q⟩
       · rfl
       · cases q
     · cases q
   · rcases hN i _ hq with ⟨rfl, q⟩ | ⟨_, q⟩
     · injection q with q; subst q
       have hlt:∀b',(E.cur u).ownBlock=some b'→b'<w.heap.size:=fun b' q=>(h1.1.lt b' q).2
       refine⟨1,[E.cur u],?_,by rw[hck];rfl,fun j hj=>?_,⟨fun j c hc _=>?_,fun i1 i2 c1 c2 b' q1 q2 _ _ _ _=>?_,(fun j u' hu=>by cases hu),(fun j u' hu=>by cases hu)⟩,fun b' hb=>?_⟩
       · rw [e1, hck]
         exact⟨⟨rfl,.inr ⟨w.heap.size,1,[E.cur u].toArray,rfl,Z5 _,heap_alloc_new w _,Z1 _,by simp[maxLen],rfl,rfl⟩⟩,fun b' hb=>hs.wok.gT aa (by simp only[Value.ownBlock,Option.some.injEq] at hb;omega)⟩
       · have : j = 0 := by simp at hj; omega
         subst this
         rw[e4];rfl
       · cases j with
         | zero =>
           simp only[aat,Option.some.injEq] at hc
           subst hc
           rw[e4]
           exact⟨vals',⟨h1.1.kept (World.grownBy_alloc w _ none) (by cases(E.cur u).ownBlock<;>simp),h1.2⟩,h2,fun k d hd=>⟨(h3 k d hd).1,rep .pl _ _ (h3 k d hd).2 (by simp)⟩⟩
         | succ j=>simp at hc
       · have : i1 < 1 := by have := (aaf.1 q1).1; simpa using this
         have:i2<1:=by have:=(aaf.1 q2).1;simpa using this
         omega
       · rw [e4] at hb
         have:=hlt b' (C6.1 hb)
         rw[e1]
         simp only[Value.ownBlock,ne_eq,Option.some.injEq]
         omega
     · cases q
 · rw [show (ins t (Ob.nar e [.row r xs] none) (gY u (iR (fun d => d.stays true t && d.stays true u) s.o))).lookup t = _ from by rw [ax, if_pos rfl]] at hh
   cases hh
def xb (P:Program)(f:FuncId)(ds:List AV)(e:TypeId)(cs:List Cell):Prop :=
 cd P f∧∀(w:World)(vs:List Value),vs.length=ds.length→(∀(j:Nat) d,ds[j]?=some d→bJ w (fun _=>False) (vs.getD j undef) d) →
   Calls P f vs.toArray w fun q w'=>∃v,q=.returned v∧Below w.heap.size w w'∧∃E:Env,E.cur 0=v∧kJ P (Fr.all w) (fun b=>b<w.heap.size) w' E [(0,.nar e cs none)] 0 (.nar e cs none)
def T4 (t:Nat)(e:TypeId)(cs:List Cell):Exit→St→Prop
 | .normal,s|.ret,s=>∃id,s.s.lookup t=some (.nst id)∧s.o.lookup id=some (.nar e cs none)
 | _,_=>False
theorem nb {f n t:Nat}{c:Code}(hf:G3 P f n t c){ds:List AV}(hn:ds.length≤n)
  (h:∀(w0:Fr)(M0:Nat→Prop),(∀b,M0 b→b<w0.w.heap.size)→ao P w0 M0 c (St.enter n .mx ds) (T4 t e cs)):xb P f ds e cs:=by
 refine⟨hf.bu,fun w vs hv hr=>?_⟩
 have hc:=h (Fr.all w) (fun b=>b<w.heap.size) (fun b hb=>hb)
 rw[eS] at hc
 obtain⟨fn,h1,h2,h3,h4,h5⟩:=hf
 refine(dt h1 h2 h3 (R:=fun v E' s' w'=>gh P (Fr.all w) (fun b=>b<w.heap.size) E' s'.o w'∧∃id,bo P (fun b=>b<w.heap.size) w' E' s'.o v (.nst id)∧s'.o.lookup id=some (.nar e cs none)) (by simpa using hn) vs (by simpa using hv) jL (fun j d hd=>?_) hc (fun q s' a' w' E' hq hs=>?_)).mono fun q w' ⟨v,E',s',he,hw,id,hsv,hl⟩=>⟨v,he,hw.below.below,?_⟩
 ·rw[Z6,Z4] at hd
  obtain⟨a,ha,rfl⟩:=hd
  have:=hr j a ha
  simp only[bo,ei]
  exact this
 ·have fin:(∃id,s'.s.lookup t=some (.nst id)∧s'.o.lookup id=some (.nar e cs none))→∃v,(results fn a'.tmps).run P w'=.ok v w'∧gh P (Fr.all w) (fun b=>b<w.heap.size) E' s'.o w'∧∃id,bo P (fun b=>b<w.heap.size) w' E' s'.o v (.nst id)∧s'.o.lookup id=some (.nar e cs none):=fun⟨id,q1,q2⟩ =>
   ⟨a'.tmps.getD t undef,by simp[results,h4],hs.wok,id,(hs.slots t _ q1).2,q2⟩
  cases q with
  | normal=>exact⟨.inl rfl,fin hq⟩
  | ret=>exact⟨.inr rfl,fin hq⟩
  | exit _=>exact hq.elim
  | goto _=>exact hq.elim
  | panic _=>exact hq.elim
  | outgrown=>exact hq.elim
 ·obtain⟨n',vals,g1,g2,g3,g4,g5⟩:=hw.objs id _ hl
  refine⟨⟨fun _=>E'.cur id,fun _=>0,fun _=>E'.sub id⟩,(hsv.1 e cs none hl).symm,n',vals,g1,g2,g3,?_,g5⟩
  have hown:∀b,owned (⟨fun _=>E'.cur id,fun _=>0,fun _=>E'.sub id⟩:Env) [(0,.nar e cs none)] b→owned E' s'.o b:=fun b ⟨i,ob,q1,q2⟩=>by
   obtain⟨rfl,rfl⟩:=LA q1
   exact⟨id,_,hl,q2⟩
  exact g4.go (mX.none _ _) (fun _ _=>rfl) (fun _ _ hf=>hf) fun v d hr=>hr.ca fun b hb=>hb.imp (fun q=>q) (hown b)
theorem lS {cx:Operand} {args:Array Operand} {ats:Array TypeId} {c:fQ} {f:FuncId} {caps ds:List AV}
   (ho:o.op=.call { callee:=.value cx,args:=args,argTypes:=ats })(hd:o.dst=some t)(hn:Nat.blt t s.n=true)(hnd:Nodup s.s=true)(hc:s.ev cx=some (.v c (.clo f caps)))(ha:jd s.ev s.o args.toList=some ds)(h:xb P f (ds++caps) e cs)
   (aa:∀b,M0 b→b<w0.w.heap.size):Step P w0 M0 o s ((s.cD true t (.nar e cs none)).put t (.nst t)):=by
 rintro a w Q ⟨E,hs⟩
 have hcv:=hs.ev hc
 simp only[bo] at hcv
 generalize hq:a.eval cx=q at hcv
 cases hcv with
 | clo _ vs _ hnc hr =>
   have hv:=lL hs.wok (fun x e hx=>hs.ev hx) _ _ ha
   unfold Oper.wp
   rw[ft ho hq h.1]
   simp only[Oper.upon]
   have hall:=h.2 w (args.toList.map a.eval++vs) (by simp[hv.1,hnc]) (fun j d hd=>?_)
   · have e1 : (args.toList.map a.eval ++ vs).toArray = args.map a.eval ++ vs.toArray := by apply abz ; simp
     rw[e1] at hall
     refine hall.mono fun q w' ⟨v,he,hb,Ec,hv0,n',vals,g1,g2,g3,g4,g5⟩=>?_
     subst he
     simp only[hd]
     obtain⟨E',f1,f2,f3,f4,f5⟩:∃E':Env,E'.cur t=v∧(∀i,i≠t→E'.cur i=E.cur i)∧E'.blk=E.blk∧E'.sub t=Ec.sub 0∧(∀i,i≠t→E'.sub i=E.sub i) :=
       ⟨{ E with cur:=fun i=>if i=t then v else E.cur i,sub:=fun i=>if i=t then Ec.sub 0 else E.sub i },if_pos rfl,fun i hi=>if_neg hi,rfl,if_pos rfl,fun i hi=>if_neg hi⟩
     have hblk:∀b',bE E' t b' (.nar e cs none)↔bE Ec 0 b' (.nar e cs none):=fun b'=>by simp only[bE,f1,f4,hv0]
     have hge:∀b',bE Ec 0 b' (.nar e cs none)→w.heap.size≤b':=fun b' hb'=>by
       rcases hb' with hb'|hb'
       · exact abV (g1.2 b' hb').2
       · exact abV (g4.range hb').1.2
     refine⟨E',a8.put ?_ (by simpa[St.cD] using hn) ⟨fun _ _ _ _=>f1.symm,fun ks c' l hh=>?_⟩⟩
     · refine hs.cD true (fun q => by cases q) hnd aa (fun i hi => ⟨f2 i hi, by rw [f3]⟩) (.inr (by rw [f3])) none (dB hb) (fun _ => hb.drawn trivial) (fun g hg => by cases hg) (fun b' hb' => .inr (hge b' ((hblk b').1 hb'))) (fun rep sv => ?_) f5
       refine⟨n',vals,?_,g2,by rw[f4];exact g3,?_,fun b' hb'=>?_⟩
       · rw [f1, ← hv0]
         exact⟨g1.1,fun b' hb'=>hs.wok.gT aa (hge b' (.inl hb'))⟩
       · rw [f4]
         refine g4.go (mX.none _ _) (fun _ _=>rfl) (fun b' hb' _=>hs.wok.gT aa (hge b' (.inr hb'))) fun v' d hr'=>hr'.ca fun b' hb'=>?_
         rcases hb' with hb'|⟨i,ob,q1,q2⟩
         · have:=aa b' hb';have:=hs.wok.below.size;exact .inl ace
         · by_cases hi : i = t
           · subst hi
             rw[ax,if_pos rfl] at q1
             simp only[Option.some.injEq] at q1
             subst q1
             exact .inr ⟨0,_,LB,(hblk b').1 q2⟩
           · rw [ax, if_neg hi, cu, Z4] at q1
             obtain⟨ob0,q3,rfl⟩:=q1
             refine .inl (hs.wok.bK ⟨i,ob0,q3,?_⟩).2
             have q2:=iv.1 q2
             cases ob0<;>simp only[bE,f2 i hi,f3,f5 i hi] at q2 ⊢<;>exact q2
       · rw [f4] at hb'
         rw[f1,←hv0]
         exact g5 b' hb'
     · rw [show ((s.cD true t (.nar e cs none)).o).lookup t = _ from by show (ins t _ _).lookup t = _; rw [ax, if_pos rfl]] at hh
       cases hh
   · rw [ZY]
     rcases aaq j ds.length with hlt|hge
     · rw [aan hlt] at hd
       have:=hv.2 j d hd
       rw[aan (by simp[hv.1];omega)]
       rwa [ZY] at this
     · rw [aal hge] at hd
       have:=hr _ d hd
       rw[aal (by simp[hv.1];omega)]
       simp only[Z0,hv.1]
       rw[ZY] at this
       exact this.ca (fun b hb=>hb.elim)
end
section
variable {P:Program} {w0:Fr}{M0:Nat→Prop}{s:St}{o:Oper}{id id2 t u j k b:Nat}{e r T:TypeId}{cs cs2:List Cell}{xs:List AV}{x y:Operand}
theorem LC {w:World}{E:Env}{o:List (Nat×Ob)}{v:Value}{c:Cell}(h:mW P w0 M0 w E o v c):v.oneCell'=true:=by
 cases c with
 | d x=>exact h.2.one h.1
 | row e xs =>
   obtain⟨vals,h1,_⟩:=h
   rcases h1.1.2 with⟨q,_⟩|⟨g,cap,cur,q,_⟩<;>rw[q]<;>rfl
 | mp ks vs=>obtain⟨b,q,_⟩:=h;rw[q];rfl
theorem LD {f:Nat→Value}{b:Nat}:fK f b (cs++cs2) none↔fK f b cs none∨fK (fun j=>f (cs.length+j)) b cs2 none:=by
 constructor
 ·rintro⟨j,c,h1,_,h3⟩
  rcases aaq j cs.length with q|q
  ·rw[aan q] at h1;exact .inl ⟨j,c,h1,by simp,h3⟩
  ·rw[aal q] at h1
   exact .inr ⟨j-cs.length,c,h1,by simp,by show CC (f (cs.length+(j-cs.length))) b c;rwa [show cs.length+(j-cs.length)=j by omega]⟩
 ·rintro(⟨j,c,h1,_,h3⟩|⟨j,c,h1,_,h3⟩)
  ·exact⟨j,c,by rw[aan (aaf.1 h1).1];exact h1,by simp,h3⟩
  ·exact⟨cs.length+j,c,by rw[aal ace,show cs.length+j-cs.length=j by omega];exact h1,by simp,h3⟩
theorem I1 (ho:o.op=.call { callee:=.builtin .append,args:=#[x,y],argTypes:=#[T,T] }) (hd:o.dst=some t) (hn:Nat.blt t s.n=true) (hne:Nat.beq id id2=false) (hnd:Nodup s.s=true) (hT:P.underlying T=some (.slice e)) (hel:iS P e 1 b=true)
   (hx:s.ev x=some (.nst id))(hl:s.o.lookup id=some (.nar e cs none))(hy:s.ev y=some (.nst id2))(hl2:s.o.lookup id2=some (.nar e cs2 none))(h2:0<cs2.length)(hb:(cs.length+cs2.length)*b≤140737488355328)(hm:cs.length+cs2.length≤4611686018427387904)(aa:∀b,M0 b→b<w0.w.heap.size) :
   Step P w0 M0 o s (({ n:=s.n,s:=s.s.filter (fun p=>p.2.stays true id&&p.2.stays true id2),o:=ins id (.nar e (cs++cs2) none) (gY id2 (iR (fun d=>d.stays true id&&d.stays true id2) s.o)) }:St).put t (.nst id)):=by
 rintro a w Q ⟨E,hs⟩
 obtain⟨i,z,hi,hz,hsz,hby,hzs,hk0,hck⟩:=iw hel
 have hdd:id≠id2:=fun q=>by rw[q,abJ] at hne;cases hne
 have hxv:a.eval x=E.cur id:=(hs.ev hx).1 e cs none hl
 have hyv:a.eval y=E.cur id2:=(hs.ev hy).1 e cs2 none hl2
 obtain⟨n1,vals1,p1,p2,p3,p4,p5⟩:=hs.wok.objs id _ hl
 obtain⟨n2,vals2,q1,q2,q3,q4,q5⟩:=hs.wok.objs id2 _ hl2
 rw[hck,abk] at p2 q2
 rw[hck] at p1 q1
 subst p2;subst q2
 have hv1:vals1.length=cs.length:=by rw[p1.1.1,abk]
 have hv2:vals2.length=cs2.length:=by rw[q1.1.1,abk]
 obtain⟨g,cap,hsl⟩:∃g cap,E.cur id2=.slice (some ⟨g,0,none⟩) cs2.length cap:=by
   rcases q1.1.2 with⟨q,h0⟩|⟨g,cap,cur,q,_⟩
   · omega
   · exact⟨g,cap,q⟩
 have hone:∀v∈vals2,v.oneCell'=true:=fun v hv=>by
   obtain⟨j,hj,rfl⟩:=aaR hv
   have hj':j<cs2.length:=ace
   have:=LC (q4.ok j _ (Z3 hj') (by simp))
   rw[←q3 j hj',ZY,Z3 hj] at this
   exact this
 obtain⟨v',w',hrun,hown',hg,_,hblk⟩:=run_append_own_at (P:=P) w 0 T o.type e i z 1 b hT hi hz hsz hby hzs hk0 (E.cur id) cs.length vals1 p1.1 ⟨g,0,none⟩ cs2.length cap vals2 (by rw[hv2,abk])
   (fun j v hv=>by have:=q1.1.cells (g:=g) (by rw[hsl];rfl) j v hv;exact this) hone (by simp only[maxLen];omega) hb (Z5 _)
 unfold Oper.wp
 have hexec:(execOp a.eval o).run P w=.ok (.value v') w':=by
   simp[execOp,ho,resolve,invoke,builtin,hxv,hyv,hsl,hrun]
 rw[hexec]
 simp only[Oper.upon,hd]
 obtain⟨E',e1,e2,e3,e4,e5⟩:∃E':Env,E'.cur id=v'∧(∀i,i≠id→E'.cur i=E.cur i)∧E'.blk=E.blk∧(E'.sub id=fun j=>if j<cs.length then E.sub id j else E.sub id2 (j-cs.length))∧(∀i,i≠id→E'.sub i=E.sub i) :=
   ⟨{ E with cur:=fun i=>if i=id then v' else E.cur i,sub:=fun i=>if i=id then fun j=>if j<cs.length then E.sub id j else E.sub id2 (j-cs.length) else E.sub i },if_pos rfl,fun i hi=>if_neg hi,rfl,if_pos rfl,fun i hi=>if_neg hi⟩
 have hN:∀i q,(if i=id then some (some (Ob.nar e (cs++cs2) none)) else if i=id2 then some none else none:Option (Option Ob))=some q→(i=id∧q=some (.nar e (cs++cs2) none))∨(i=id2∧q=none):=fun i q hq=>by
   by_cases h1:i=id
   · rw[if_pos h1] at hq;injection hq with hq;exact .inl ⟨h1,hq.symm⟩
   · rw [if_neg h1] at hq
     by_cases h2:i=id2
     · rw[if_pos h2] at hq;injection hq with hq;exact .inr ⟨h2,hq.symm⟩
     · rw[if_neg h2] at hq;cases hq
 have hs1:∀b',fK (E'.sub id) b' (cs++cs2) none→fK (E.sub id) b' cs none∨fK (E.sub id2) b' cs2 none:=fun b' hb'=>by
   rcases LD.1 hb' with⟨j,c,r1,r2,r3⟩|⟨j,c,r1,r2,r3⟩
   · rw [e4] at r3
     simp only[if_pos (aaf.1 r1).1] at r3
     exact .inl ⟨j,c,r1,r2,r3⟩
   · rw [e4] at r3
     simp only[if_neg (show ¬cs.length+j<cs.length by omega),show cs.length+j-cs.length=j by omega] at r3
     exact .inr ⟨j,c,r1,r2,r3⟩
 have apart:∀b',bE E id b' (.nar e cs none)→bE E id2 b' (.nar e cs2 none)→False:=fun b' r1 r2=>hdd (hs.wok.disj id _ id2 _ b' hl hl2 r1 r2)
 have hrow:∀b',v'.ownBlock=some b'→bE E id b' (.nar e cs none)∨w.heap.size≤b':=fun b' hb'=>by
   rcases hblk with q|q
   · rw[q] at hb';exact .inl (.inl hb')
   · rw[q] at hb';simp only[Option.some.injEq] at hb';exact .inr ace
 refine⟨E',a8.put ?_ (by simpa using hn) ⟨fun _ _ _ _=>e1.symm,fun ks c l hh=>?_⟩⟩
 · refine a8.wG (E' := E') (fun d => d.stays true id && d.stays true id2) (fun i => if i = id then some (some (.nar e (cs ++ cs2) none)) else if i = id2 then some none else none) _ (fun i => ?_) (fun d => rfl) (fun i ob hq hx => ?_) (fun i hq => ?_) hs hnd aa (fun i hq => ?_) (fun x hx => by rw [e3]) (E.cur id).ownBlock hg (fun _ => nj _ _ _ _ hrun) (fun g' hg' => ⟨id, _, by rw [if_pos J]; simp, hl, .inl hg'⟩) (fun i ob b' hq hb' => ?_) (fun i ob i' ob' b' hq hq' hb hb' => ?_) (fun rep sv lents i ob hq => ?_)
   · rw [ax]
     by_cases r1:i=id
     · rw[if_pos r1,if_pos r1]
     · rw [if_neg r1, if_neg r1, c8]
       by_cases r2:i=id2
       · rw[if_pos r2,if_pos r2]
       · rw[if_neg r2,if_neg r2];exact ga _ i s.o
   · rcases hN i _ hq with ⟨rfl, _⟩ | ⟨_, q⟩
     · obtain ⟨d, r1, r2⟩ := hx
       rw[gV r1] at r2;cases r2
     · cases q
   · rcases hN i _ hq with ⟨_, q⟩ | ⟨rfl, _⟩
     · cases q
     · exact⟨e2 i (aaX hdd),by rw[e3]⟩
   · have hit : i ≠ id := fun q => by rw [if_pos q] at hq; cases hq
     exact⟨e2 i hit,by rw[e3],e5 i hit⟩
   · rcases hN i _ hq with ⟨rfl, q⟩ | ⟨_, q⟩
     · injection q with q; subst q
       rcases hb' with hb'|hb'
       · rw [e1] at hb'
         rcases hrow b' hb' with q|q
         · exact .inl ⟨i,_,by rw[if_pos J];simp,hl,q⟩
         · exact .inr q
       · rcases hs1 b' hb' with q | q
         · exact .inl ⟨i,_,by rw[if_pos J];simp,hl,.inr q⟩
         · exact .inl ⟨id2,_,by rw[if_neg (aaX hdd),if_pos J];simp,hl2,.inr q⟩
     · cases q
   · rcases hN i _ hq with ⟨rfl, _⟩ | ⟨_, q⟩
     · rcases hN i' _ hq' with ⟨rfl, _⟩ | ⟨_, q⟩
       · rfl
       · cases q
     · cases q
   · rcases hN i _ hq with ⟨rfl, q⟩ | ⟨_, q⟩
     · injection q with q; subst q
       have hlt1:∀b',fK (E.sub i) b' cs none→b'<w.heap.size:=fun b' q=>(p4.range q).2
       have hlt2:∀b',fK (E.sub id2) b' cs2 none→b'<w.heap.size:=fun b' q=>(q4.range q).2
       have hnr:∀b',fK (E.sub i) b' cs none∨fK (E.sub id2) b' cs2 none→some b'≠(E.cur i).ownBlock:=fun b' q he=>by
         rcases q with q|q
         · exact p5 b' q he.symm
         · exact apart b' (.inl he.symm) (.inr q)
       have hcell:∀(j:Nat) c,(cs++cs2)[j]?=some c→(j<cs.length∧cs[j]?=some c∧E'.sub i j=E.sub i j)∨(cs.length≤j∧cs2[j-cs.length]?=some c∧E'.sub i j=E.sub id2 (j-cs.length)):=fun j c hc=>by
         rcases aaq j cs.length with q|q
         · rw [aan q] at hc
           exact .inl ⟨q,hc,by rw[e4];exact if_pos q⟩
         · rw [aal q] at hc
           exact .inr ⟨q,hc,by rw[e4];exact if_neg ace⟩
       refine⟨cs.length+cs2.length,vals1++vals2,?_,by rw[hck,abk,aab],fun j hj=>?_,⟨fun j c hc _=>?_,fun i1 i2 c1 c2 b' r1 r2 _ _ r5 r6=>?_,(fun j u' hu=>by cases hu),(fun j u' hu=>by cases hu)⟩,fun b' hb'=>?_⟩
       · rw [e1, hck]
         refine⟨hown',fun b' hb'=>?_⟩
         rcases hrow b' hb' with q|q
         · exact(kJ.dA (hs.wok.objs i _ hl) q).1
         · exact hs.wok.gT aa q
       · rw [show E'.sub i j = if j < cs.length then E.sub i j else E.sub id2 (j - cs.length) from congrFun e4 j, ZY]
         rw[aab] at hj
         rcases aaq j cs.length with q|q
         · rw[aan ace,if_pos q,←ZY];exact p3 j q
         · rw[aal ace,if_neg ace,hv1,←ZY];exact q3 _ ace
       · rcases hcell j c hc with ⟨r1, r2, r3⟩ | ⟨r1, r2, r3⟩
         · rw [r3]
           exact(p4.ok j c r2 (by simp)).go (fun b' hb'=>hg.block b' (hlt1 b' ⟨j,c,r2,by simp,hb'⟩) (hnr b' (.inl ⟨j,c,r2,by simp,hb'⟩))) (fun _ _ hf=>hf) (fun v d hr=>rep .pl v d hr (by simp))
         · rw [r3]
           exact(q4.ok _ c r2 (by simp)).go (fun b' hb'=>hg.block b' (hlt2 b' ⟨_,c,r2,by simp,hb'⟩) (hnr b' (.inr ⟨_,c,r2,by simp,hb'⟩))) (fun _ _ hf=>hf) (fun v d hr=>rep .pl v d hr (by simp))
       · rcases hcell i1 c1 r1 with ⟨a1, a2, a3⟩ | ⟨a1, a2, a3⟩
         · rcases hcell i2 c2 r2 with ⟨b1, b2, b3⟩ | ⟨b1, b2, b3⟩
           · rw [a3] at r5; rw [b3] at r6
             exact p4.apart i1 i2 c1 c2 b' a2 b2 (by simp) (by simp) r5 r6
           · rw [a3] at r5; rw [b3] at r6
             exact(apart b' (.inr ⟨i1,c1,a2,by simp,r5⟩) (.inr ⟨_,c2,b2,by simp,r6⟩)).elim
         · rcases hcell i2 c2 r2 with ⟨b1, b2, b3⟩ | ⟨b1, b2, b3⟩
           · rw [a3] at r5; rw [b3] at r6
             exact(apart b' (.inr ⟨i2,c2,b2,by simp,r6⟩) (.inr ⟨_,c1,a2,by simp,r5⟩)).elim
           · rw [a3] at r5; rw [b3] at r6
             have:=q4.apart _ _ c1 c2 b' a2 b2 (by simp) (by simp) r5 r6
             omega
       · intro hb2
         rw[e1] at hb2
         rcases hs1 b' hb' with q|q
         · rcases hrow b' hb2 with r1 | r1
           · rcases hblk with h0 | h0
             · rw[h0] at hb2;exact p5 b' q hb2
             · rw[h0] at hb2;simp only[Option.some.injEq] at hb2;have:=hlt1 b' q;omega
           · have:=hlt1 b' q;omega
         · rcases hrow b' hb2 with r1 | r1
           · exact apart b' r1 (.inr q)
           · have:=hlt2 b' q;omega
     · cases q
 · rw [show (ins id (Ob.nar e (cs ++ cs2) none) (gY id2 (iR (fun d => d.stays true id && d.stays true id2) s.o))).lookup id = _ from by rw [ax, if_pos rfl]] at hh
   cases hh
end
section
variable {P:Program} {w0:Fr}{M0:Nat→Prop}{s:St}{o:Oper}{id id2 t u j k b:Nat}{e r T:TypeId}{cs cs2:List Cell}{xs:List AV}{x y:Operand}{E:Env}{a:Act}{w:World}
def Cell.av:Cell→AV
 | .d x=>x
 | .row _ xs=>.sl xs
 | .mp ks vs=>.mp ks vs
theorem sm.rep {o:List (Nat×Ob)}{M:Nat→Prop}{v:Value}(h:sm P w0 M0 w E o e xs v)(hd:∀v d,bJ w (cC M0 (owned E o) .pl) v d→bJ w M v d)(hb:∀g,v.ownBlock=some g→¬M g):bJ w M v (.sl xs):=by
 obtain⟨vals,h1,h2,h3⟩:=h
 have hfl:=bN xs h2
 obtain⟨⟨hl,h1'⟩,hfree⟩:=h1
 rcases h1' with⟨hv,hn⟩|⟨g,cap,cur,hv,hg,hh,hnc,hcm,hcs,htake⟩
 ·rw[hv]
  have:xs=[]:=aak hn
  subst this
  exact .sl none 0 0 [] (P.cellsOf e) (fun _=>undef) J (Z1 _) h2 (fun h=>absurd h ace) (fun j d hd=>by simp[flat] at hd) (fun j d hd=>by simp[flat] at hd)
 ·have hown:w.ownsRow 0 e (P.cellsOf e) v xs.length vals:=⟨hl,.inr ⟨g,cap,cur,hv,hg,hh,hnc,hcm,hcs,htake⟩⟩
  have hob:v.ownBlock=some g:=by rw[hv];rfl
  rw[hv]
  refine .sl _ _ _ _ (P.cellsOf e) (fun j=>vals.getD j undef) J hnc h2 (fun h0=>⟨g,0,rfl,hb g hob,(hown.lt g hob).2,fun j hj=>?_⟩) (fun j d hj=>(h3 j d hj).1) (fun j d hj=>hd _ _ (h3 j d hj).2)
  have hj':j<vals.length:=by rw[hl];exact hj
  have:=hown.cells hob j vals[j] (Z3 hj')
  rw[Addr.add_lit] at this
  rw[this,ZY,Z3 hj'];rfl
theorem mW.rep {o:List (Nat×Ob)}{M:Nat→Prop}{v:Value}{c:Cell}(h:mW P w0 M0 w E o v c)(hd:∀v d,bJ w (cC M0 (owned E o) .pl) v d→bJ w M v d)(hb:∀g,CC v g c→¬M g):bJ w M v c.av:=by
 cases c with
 | d x=>exact hd _ _ h.2
 | row e xs=>exact sm.rep h hd hb
 | mp ks vs =>
   obtain⟨g,q,es,clock,h1,h2,h3,h4,h5⟩:=h
   rw[q]
   exact .mp g es clock ks vs (hb g q) (gj h1) h1 h3 h4 fun j d hj=>hd _ _ (h5 j d hj)
theorem Hh {o:List (Nat×Ob)}{v:Value}{c:Cell}(h:mW P w0 M0 w E o v c):AV.leaf c.av=true:=by
 cases c with
 | d x=>exact h.1
 | row e xs=>rfl
 | mp ks vs=>rfl
theorem oh {d:AV}(h:AV.leaf d=true):AV.cells d=[d]:=by
 cases d<;>first|rfl|cases h
theorem jB:∀ {l:List AV},(∀x∈l,AV.leaf x=true)→flat l=l
 | [],_=>rfl
 | x :: l, h => by
   have ih:=jB (l:=l) fun y hy=>h y (aac _ hy)
   unfold flat at ih ⊢
   rw[aa7,oh (h x Z7),ih];rfl
theorem a8.flatten (h:a8 P w0 M0 E s a w)(hnd:Nodup s.s=true)(aa:∀b,M0 b→b<w0.w.heap.size)(hl:s.o.lookup id=some (.nar e cs none))(hck:P.cellsOf e=1):a8 P w0 M0 E (s.cD true id (.arr e (cs.map Cell.av))) a w:=by
 obtain⟨n,vals,g1,g2,g3,g4,g5⟩:=h.wok.objs id _ hl
 rw[hck,abk] at g2
 subst g2
 refine h.cD true (fun q=>by cases q) hnd aa (fun i hi=>⟨rfl,rfl⟩) (.inr J) none ⟨rfl,rfl,rfl,Z1 _,fun _ _ _=>rfl⟩ (fun _=>Z1 _) (fun g hg=>by cases hg) (fun b hb=>.inl ⟨_,hl,.inl hb⟩) (fun rep sv=>?_)
 have hleaf:∀x∈cs.map Cell.av,AV.leaf x=true:=fun x hx=>by
  obtain⟨c,hc,rfl⟩:=aao.1 hx
  obtain⟨j,hj,rfl⟩:=aaR hc
  exact Hh (g4.ok j _ (Z3 hj) (by simp))
 refine⟨vals,by rw[Z0];exact g1,fun x hx=>by rw[oh (hleaf x hx),hck];rfl,fun j d hd=>?_⟩
 rw[jB hleaf] at hd
 refine⟨hleaf d (aaA hd),?_⟩
 rw[Z6,Z4] at hd
 obtain⟨c,hc,rfl⟩:=hd
 have hj:j<cs.length:=(aaf.1 hc).1
 rw[g3 j hj]
 refine(g4.ok j c hc (by simp)).rep (fun v d hr=>rep .pl v d hr (by simp)) fun g hg hm=>?_
 have hsub:fK (E.sub id) g cs none:=⟨j,c,hc,by simp,hg⟩
 rcases hm with hm|⟨i,ob,q1,q2⟩
 ·exact(g4.range hsub).1.2 hm
 ·by_cases hi:i=id
  ·subst hi
   rw[ax,if_pos rfl] at q1
   simp only[Option.some.injEq] at q1
   subst q1
   exact g5 g hsub q2
  ·rw[ax,if_neg hi,cu,Z4] at q1
   obtain⟨ob0,q3,rfl⟩:=q1
   exact hi (h.wok.disj i ob0 id _ g q3 hl (iv.1 q2) (.inr hsub))
theorem I2 (t:Nat)(aa:∀b,M0 b→b<w0.w.heap.size)(hnd:Nodup s.s=true)(ht:s.s.lookup t=some (.nst id))(hl:s.o.lookup id=some (.nar e cs none))(hk:bW P e=some 1):fJ P w0 M0 s ((s.cD true id (.arr e (cs.map Cell.av))).put t (.own id)):=by
 rintro a w ⟨E,hs⟩
 have h0:=hs.slots t _ ht
 exact⟨E,(hs.flatten hnd aa hl (cL hk)).CV h0.1 fun _ _ _=>h0.2.1 e cs none hl⟩
theorem Fv {y:Code}{Q:Exit→St→Prop}(t:Nat)(aa:∀b,M0 b→b<w0.w.heap.size)(hnd:Nodup s.s=true)(ht:s.s.lookup t=some (.nst id))(hl:s.o.lookup id=some (.nar e cs none))(hk:bW P e=some 1)(h:ao P w0 M0 y ((s.cD true id (.arr e (cs.map Cell.av))).put t (.own id)) Q):ao P w0 M0 y s Q:=ao.imp (I2 t aa hnd ht hl hk) h
theorem OZ {e:TypeId}(rows:List (List AV)):(rows.map (Cell.row e)).map Cell.av=rows.map AV.sl:=by rw[abY];rfl
theorem xb.data {f:FuncId}{ds:List AV}(h:xb P f ds e cs)(hk:bW P e=some 1):aq P f ds (.p (.sl (cs.map Cell.av))) :=
 ⟨h.1, fun w vs hv hr => (h.2 w vs hv hr).mono fun q w' ⟨v, he, hb, E, hv0, n, vals, g1, g2, g3, g4, g5⟩ => ⟨v, he, hb, by
   rw[cL hk,abk] at g2
   subst g2
   have hleaf:∀x∈cs.map Cell.av,AV.leaf x=true:=fun x hx=>by
     obtain⟨c,hc,rfl⟩:=aao.1 hx
     obtain⟨j,hj,rfl⟩:=aaR hc
     exact Hh (g4.ok j _ (Z3 hj) (by simp))
   have hown0:∀g,(E.cur 0).ownBlock=some g→¬g<w.heap.size:=fun g hg q=>(g1.2 g hg).2 q
   show bJ w' _ v (.sl (cs.map Cell.av))
   rw[←hv0]
   obtain⟨⟨hl,h1'⟩,hfree⟩:=g1
   have hwk:∀v d,bJ w' (cC (fun b=>b<w.heap.size) (owned E [(0,.nar e cs none)]) .pl) v d→bJ w' (fun b=>b<w.heap.size) v d:=fun v d hr=>hr.ca fun b hb=>.inl hb
   rw[cL hk] at h1' hl
   rcases h1' with⟨hvn,hn⟩|⟨g,cap,cur,hvs,hg,hh,hnc,hcm,hcs,htake⟩
   · rw [hvn]
     have:cs=[]:=aak hn
     subst this
     exact .sl none 0 0 [] 1 (fun _=>undef) J (Z1 _) (fun x hx=>by cases hx) (fun h=>absurd h ace) (fun j d hd=>by simp[flat] at hd) (fun j d hd=>by simp[flat] at hd)
   · have hown : w'.ownsRow 0 e 1 (E.cur 0) cs.length vals := ⟨hl, .inr ⟨g, cap, cur, hvs, hg, hh, hnc, hcm, hcs, htake⟩⟩
     have hob:(E.cur 0).ownBlock=some g:=by rw[hvs];rfl
     rw[hvs]
     refine .sl _ _ _ _ 1 (fun j=>vals.getD j undef) (by rw[Z0]) hnc (fun x hx=>by rw[oh (hleaf x hx)];rfl) (fun h0=>⟨g,0,rfl,hown0 g hob,(hown.lt g hob).2,fun j hj=>?_⟩) (fun j d hd=>?_) (fun j d hd=>?_)
     · have hj' : j < vals.length := by rw [hl]; exact hj
       have:=hown.cells hob j vals[j] (Z3 hj')
       rw[Addr.add_lit] at this
       rw[this,ZY,Z3 hj'];rfl
     · rw[jB hleaf] at hd;exact hleaf d (aaA hd)
     · rw [jB hleaf, Z6, Z4] at hd
       obtain⟨c,hc,rfl⟩:=hd
       have hj:j<cs.length:=(aaf.1 hc).1
       rw[g3 j hj]
       exact(g4.ok j c hc (by simp)).rep hwk fun g' hg' q=>(g4.range ⟨j,c,hc,by simp,hg'⟩).1.2 q⟩⟩
end
section
variable {P:Program} {w0:Fr}{M0:Nat→Prop}{s:St}{t u j:Nat}{e r:TypeId}{cs cs':List Cell}{xs:List AV}{y:Code}{Q:Exit→St→Prop}
theorem LF (id u:Nat)(aa:∀b,M0 b→b<w0.w.heap.size)(hnd:Nodup s.s=true)(hne:Nat.beq u id=false)(hl:s.o.lookup id=some (.nar e cs none))(hc:cs[j]?=some (.row r xs)) :
  fJ P w0 M0 s { n:=s.n,s:=s.s.filter (fun p=>p.2.stays true u),o:=ins u (.arr r xs) (ins id (.nar e cs (some (j,.arr u))) (iE true u s.o)) }:=fun a w ⟨E,hs⟩=>by
 obtain⟨E',_,h⟩:=hs.borrow (u:=u) hnd aa hl hc (fun q=>by rw[q,abJ] at hne;cases hne)
 exact⟨E',h⟩
theorem qn (id u:Nat)(aa:∀b,M0 b→b<w0.w.heap.size)(hnd:Nodup s.s=true)(hne:Nat.beq u id=false)(hl:s.o.lookup id=some (.nar e cs none))(hc:cs[j]?=some (.row r xs))
 (h:ao P w0 M0 y { n:=s.n,s:=s.s.filter (fun p=>p.2.stays true u),o:=ins u (.arr r xs) (ins id (.nar e cs (some (j,.arr u))) (iE true u s.o)) } Q):ao P w0 M0 y s Q:=ao.imp (LF id u aa hnd hne hl hc) h
theorem xc {id:Nat}(h:s.s.lookup t=some (.nst id))(h':s.o.lookup id=some (.nar e cs' none))(q:cs'=cs):T4 t e cs .ret s:=⟨id,h,by rw[h',q]⟩
end
section
variable {P:Program} {w0:Fr}{M0:Nat→Prop}{s:St}{id:Nat}{e:TypeId}{cs:List Cell}{E:Env}{a:Act}{w:World}
theorem a8.W0 (u:Nat)(h:a8 P w0 M0 E s a w)(hnd:Nodup s.s=true)(aa:∀b,M0 b→b<w0.w.heap.size)(hl:s.o.lookup id=some (.nar e cs none))(hu:u≠id) :
  ∃E':Env,E'.cur u=E.cur id∧a8 P w0 M0 E' { n:=s.n,s:=s.s.filter (fun p=>p.2.stays true u&&p.2.stays true id),o:=ins u (.nar e cs none) (gY id (iR (fun d=>d.stays true u&&d.stays true id) s.o)) } a w:=by
 obtain⟨n,vals,g1,g2,g3,g4,g5⟩:=h.wok.objs id _ hl
 obtain⟨E',e1,e2,e3,e4,e5⟩:∃E':Env,E'.cur u=E.cur id∧(∀i,i≠u→E'.cur i=E.cur i)∧E'.blk=E.blk∧E'.sub u=E.sub id∧(∀i,i≠u→E'.sub i=E.sub i) :=
  ⟨{ E with cur:=fun i=>if i=u then E.cur id else E.cur i,sub:=fun i=>if i=u then E.sub id else E.sub i },if_pos rfl,fun i hi=>if_neg hi,rfl,if_pos rfl,fun i hi=>if_neg hi⟩
 have hN:∀i q,(if i=u then some (some (Ob.nar e cs none)) else if i=id then some none else none:Option (Option Ob))=some q→(i=u∧q=some (.nar e cs none))∨(i=id∧q=none):=fun i q hq=>by
  by_cases h1:i=u
  ·rw[if_pos h1] at hq;injection hq with hq;exact .inl ⟨h1,hq.symm⟩
  ·rw[if_neg h1] at hq
   by_cases h2:i=id
   ·rw[if_pos h2] at hq;injection hq with hq;exact .inr ⟨h2,hq.symm⟩
   ·rw[if_neg h2] at hq;cases hq
 refine⟨E',e1,?_⟩
 refine a8.wG (E':=E') (fun d=>d.stays true u&&d.stays true id) (fun i=>if i=u then some (some (.nar e cs none)) else if i=id then some none else none) _ (fun i=>?_) (fun d=>rfl) (fun i ob hq hx=>?_) (fun i hq=>?_) h hnd aa (fun i hq=>?_) (fun x hx=>by rw[e3]) none ⟨rfl,rfl,rfl,Z1 _,fun _ _ _=>rfl⟩ (fun _=>Z1 _) (fun g hg=>by cases hg) (fun i ob b hq hb=>.inl ?_) (fun i ob i' ob' b hq hq' hb hb'=>?_) (fun rep sv lents i ob hq=>?_)
 ·rw[ax]
  by_cases q1:i=u
  ·rw[if_pos q1,if_pos q1]
  ·rw[if_neg q1,if_neg q1,c8]
   by_cases q2:i=id
   ·rw[if_pos q2,if_pos q2]
   ·rw[if_neg q2,if_neg q2];exact ga _ i s.o
 ·rcases hN i _ hq with⟨rfl,_⟩|⟨_,q⟩
  ·obtain⟨d,q1,q2⟩:=hx
   rw[gV q1] at q2;cases q2
  ·cases q
 ·rcases hN i _ hq with⟨_,q⟩|⟨rfl,_⟩
  ·cases q
  ·exact⟨e2 i (aaX hu),by rw[e3]⟩
 ·have hit:i≠u:=fun q=>by rw[if_pos q] at hq;cases hq
  exact⟨e2 i hit,by rw[e3],e5 i hit⟩
 ·rcases hN i _ hq with⟨rfl,q⟩|⟨_,q⟩
  ·injection q with q;subst q
   refine⟨id,_,by rw[if_neg (aaX hu),if_pos J];simp,hl,?_⟩
   simpa only[bE,e1,e4] using hb
  ·cases q
 ·rcases hN i _ hq with⟨rfl,_⟩|⟨_,q⟩
  ·rcases hN i' _ hq' with⟨rfl,_⟩|⟨_,q⟩
   ·rfl
   ·cases q
  ·cases q
 ·rcases hN i _ hq with⟨rfl,q⟩|⟨_,q⟩
  ·injection q with q;subst q
   refine⟨n,vals,by rw[e1];exact g1,g2,by rw[e4];exact g3,?_,by rw[e1,e4];exact g5⟩
   rw[e4]
   exact g4.go (mX.none _ _) (fun _ _=>rfl) (fun _ _ hf=>hf) (fun v d hr=>rep .pl v d hr (by simp))
  ·cases q
theorem LG (t u:Nat)(aa:∀b,M0 b→b<w0.w.heap.size)(hnd:Nodup s.s=true)(ht:s.s.lookup t=some (.nst id))(hl:s.o.lookup id=some (.nar e cs none))(hne:Nat.beq u id=false) :
  fJ P w0 M0 s (({ n:=s.n,s:=s.s.filter (fun p=>p.2.stays true u&&p.2.stays true id),o:=ins u (.nar e cs none) (gY id (iR (fun d=>d.stays true u&&d.stays true id) s.o)) }:St).put t (.nst u)):=by
 rintro a w ⟨E,hs⟩
 have h0:=hs.slots t _ ht
 obtain⟨E',e1,h1⟩:=hs.W0 u hnd aa hl (fun q=>by rw[q,abJ] at hne;cases hne)
 refine⟨E',h1.CV h0.1 ⟨fun e' cs' ln hh=>by rw[e1];exact h0.2.1 e cs none hl,fun ks cs' ln hh=>?_⟩⟩
 rw[show(ins u (Ob.nar e cs none) (gY id (iR (fun d=>d.stays true u&&d.stays true id) s.o))).lookup u=_ from by rw[ax,if_pos rfl]] at hh
 cases hh
theorem O0 {ops:Array Oper}{Q:St→Prop}{l':List Oper}(t u:Nat)(aa:∀b,M0 b→b<w0.w.heap.size)(hnd:Nodup s.s=true)(ht:s.s.lookup t=some (.nst id))(hl:s.o.lookup id=some (.nar e cs none))(hne:Nat.beq u id=false)
 (h:ki P w0 M0 ops Q l' (({ n:=s.n,s:=s.s.filter (fun p=>p.2.stays true u&&p.2.stays true id),o:=ins u (.nar e cs none) (gY id (iR (fun d=>d.stays true u&&d.stays true id) s.o)) }:St).put t (.nst u))):ki P w0 M0 ops Q l' s:=ki.imp (LG t u aa hnd ht hl hne) h
end
section
variable {P:Program} {w0:Fr}{M0:Nat→Prop}{ops:Array Oper}
end
section
variable {P:Program} {w0:Fr}{M0:Nat→Prop}{ops:Array Oper}
def C7 (E:Nat→Nat)(L:Array Bool):Nat→Nat
 | 0=>0
 | p+1=>if L.getD (E p) false then p+1 else C7 E L p
theorem tU (E:Nat→Nat)(L:Array Bool):∀m,C7 E L m≤m
 | 0=>Z1 _
 | m + 1 => by
   unfold C7
   split
   · exact Z1 _
   · exact Nat.le_succ_of_le (tU E L m)
theorem Hi {E:Nat→Nat}{L:Array Bool}:∀{m:Nat},(∀p q,p<q→q<m→L.getD (E q) false=true→L.getD (E p) false=true)→∀p,p<m→(L.getD (E p) false=true↔p<C7 E L m)
 | 0,_,p,h=>absurd h (Nat.not_lt_zero p)
 | m + 1, hc, p, h => by
   unfold C7
   by_cases q:L.getD (E m) false=true
   · rw [if_pos q]
     refine⟨fun _=>h,fun _=>?_⟩
     by_cases e:p=m
     · rw[e];exact q
     · exact hc p m ace ace q
   · rw [if_neg q]
     by_cases e:p=m
     · subst e
       have:=tU E L p
       exact⟨fun h=>absurd h q,fun h=>ace⟩
     · exact Hi (fun a b h1 h2=>hc a b h1 ace) p ace
theorem xd {E:Nat→Nat}{L:Array Bool}{m t:Nat}(ht:t≤m)(h1:∀p,p<t→L.getD (E p) false=true)(h2:∀p,t≤p→p<m→L.getD (E p) false=false):C7 E L m=t:=by
 induction m with
 | zero=>unfold C7;omega
 | succ m ih =>
   unfold C7
   by_cases q:t=m+1
   · rw[if_pos (h1 m ace)];exact q.symm
   · rw [if_neg (by rw [h2 m ace ace]; decide)]
     exact ih ace fun p hp hm=>h2 p hp ace
def Bk (E:Nat→Nat)(m i:Nat):Bool:=(List.range m).any fun p=>Nat.beq i (E p)
theorem C8 {E:Nat→Nat}{m i:Nat}:Bk E m i=true↔∃p,p<m∧i=E p:=by
 unfold Bk
 rw[aay]
 exact⟨fun⟨p,hp,h⟩=>⟨p,aap.1 hp,aaM h⟩,fun⟨p,hp,h⟩=>⟨p,aap.2 hp,by rw[h];exact abJ _⟩⟩
theorem Fw {id:Nat}{n:Nat}{s0:List (Nat×SV)}(m:Nat)(E:Nat→Nat)(O:Nat→List (Nat×Ob))(k:Nat)(G:List (Nat×SV)){Q':Exit→St→Prop}(hm:P.follows .mixedOrders=true)(hok:mY ops=true)(htl:fY ops k=true)(hmid:xa ops n k (Bk E m)=true)(hks:Nat.ble k ops.size=true)
   (Zu:∀p,p<m→E p<k)(hch:∀p q,p<q→q<m→(kL ops ops.size (E q)).contains (E p)=true)(hinj:∀p q,p<q→q<m→E p≠E q)
   (hG:∀t d,(G.filter fun p=>eG ops k #[] p.1).lookup t=some d→s0.lookup t=some d)(hnd:Nodup G=true)
   (hset:∀i t,i<k→(ops[i]?).bind (·.dst)=some t→∃d,G.lookup t=some d)
   (hP:∀p i o t d,p≤m→i<k→Bk E m i=false→ops[i]?=some o→o.dst=some t→G.lookup t=some d→(∀q,q<p→(kL ops ops.size (E q)).contains i=false)→(p<m→(kL ops ops.size i).contains (E p)=false)→Pure P w0 M0 o (ff ops o (St.ev ⟨n,G,O p⟩)) (O p) d)
   (hE:∀p o X,p<m→ops[E p]?=some o→Nodup X=true→(∀t d,X.lookup t=some d→G.lookup t=some d)→(∀t,t∈looks ops o→X.lookup t=G.lookup t)→∃s',Step P w0 M0 o ⟨n,X,O p⟩ s'∧fJ P w0 M0 s' ⟨n,rI G X o,O (p+1)⟩)
   (hend:ss P w0 M0 ops (fun s=>∃s',fJ P w0 M0 s s'∧Q' .normal s') k ⟨n,G,O m⟩):ao P w0 M0 (.region id ops true) ⟨n,s0,O 0⟩ Q':=by
 obtain⟨hns,hsp⟩:=mv hok
 have hlt:∀i o,ops[i]?=some o→∀j∈fR o,j<i:=fun i o ho=>(hsp i o ho).1
 have hks':=ZZ hks
 have down:∀{L:Array Bool}{i:Nat},nY ops L→L.size=ops.size→L.getD i false=true→∀j,j∈kL ops ops.size i→L.getD j false=true:=fun{L i} hc hsz hL j hj=>by
   have hi:i<ops.size:=by
     rcases aaq i ops.size with q|q
     · exact q
     · exfalso
       have:L.getD i false=false:=by simp[show ¬i<L.size by omega]
       rw[hL] at this;cases this
   have hio:ops[i]?=some ops[i]:=aas hi
   exact eT hc ops.size i ops[i] hio (fun q hq=>hc i _ hio hL q hq) hlt j hj
 have ne_mem:∀{i j:Nat},(¬j∈kL ops ops.size i)→(kL ops ops.size i).contains j=false:=fun{i j} h=>by
   cases hq:(kL ops ops.size i).contains j with
   | false=>rfl
   | true=>exact absurd (aaH.1 hq) h
 have chain:∀{L:Array Bool},nY ops L→L.size=ops.size→∀p q,p<q→q<m→L.getD (E q) false=true→L.getD (E p) false=true:=fun{L} hc hL p q h1 h2 h3=>down hc hL h3 _ (aaH.1 (hch p q h1 h2))
 refine Fu (eff:=Bk E m) (oL:=fun L=>O (C7 E L m)) (o2:=O m) k G hm hok htl hmid hks hG hnd hset (fun L hL=>?_) (fun L hL=>?_) (fun L i o t d hL hc hanc AZ hik hef ho hd W4=>?_) (fun L i o X hL hc hanc AZ hik hef ho hX dO dh=>?_) hend
 · show O (C7 E L m) = O 0
   rw[xd (Z5 m) (fun p hp=>absurd hp (Nat.not_lt_zero p)) fun p _ _=>hL _]
 · show O (C7 E L m) = O m
   rw[xd (Z1 m) (fun p hp=>hL _ (Zu p hp)) fun p h1 h2=>ace]
 · have his : i < ops.size := (aaB.1 ho).1
   have hne:∀p,p<m→i≠E p:=fun p hp e=>by
     have:=C8.2 ⟨p,hp,e⟩
     rw[hef] at this;cases this
   have hiff:=Hi (chain hc hL)
   refine⟨hP _ i o t d (tU E L m) hik hef ho hd W4 (fun q hq=>ne_mem fun hmm=>?_) fun hp=>ne_mem fun hmm=>?_,?_⟩
   · have := tU E L m
     have:=down hc hL ((hiff q ace).2 hq) i hmm
     rw[AZ] at this;cases this
   · have := (hiff _ hp).1 (hanc _ hmm)
     omega
   · show O (C7 E (L.setIfInBounds i true) m) = O (C7 E L m)
     congr 1
     refine xd (tU E L m) (fun p hp=>?_) fun p h1 h2=>?_
     · have := tU E L m
       rw[cg ace,if_neg (aaX (hne p ace))]
       exact(hiff p ace).2 hp
     · rw [cg ace, if_neg (aaX (hne p h2))]
       cases hq:L.getD (E p) false with
       | false=>rfl
       | true=>have:=(hiff p h2).1 hq;omega
 · have his : i < ops.size := (aaB.1 ho).1
   obtain⟨p,hp,rfl⟩:=C8.1 hef
   have later:∀q,p≤q→q<m→L.getD (E q) false=false:=fun q h1 h2=>by
     by_cases e:q=p
     · rw[e];exact AZ
     · cases hq : L.getD (E q) false with
       | false=>rfl
       | true=>have:=chain hc hL p q ace h2 hq;rw[AZ] at this;cases this
   have before:∀q,q<p→L.getD (E q) false=true:=fun q h1=>hanc _ (aaH.1 (hch q p h1 hp))
   have e1:C7 E L m=p:=xd ace before later
   have e2:C7 E (L.setIfInBounds (E p) true) m=p+1:=xd ace (fun q hq=>by
       rw[cg ace]
       by_cases e:q=p
       · rw[e,if_pos rfl]
       · rw[if_neg (hinj q p ace hp)];exact before q ace) fun q h1 h2=>by
       rw[cg ace,if_neg (aaX (hinj p q ace h2))]
       exact later q ace h2
   show ∃s',Step P w0 M0 o ⟨n,X,O (C7 E L m)⟩ s'∧fJ P w0 M0 s' ⟨n,_,O (C7 E (L.setIfInBounds (E p) true) m)⟩
   rw[e1,e2]
   exact hE p o X hp ho hX dO dh
end
section
variable {P:Program} {w0:Fr}{M0:Nat→Prop}{s s':St}{id u t:Nat}{e:TypeId}{xs:List AV}{cs:List Cell}{E:Env}{a:Act}{w:World}
def SV.gone (o:List (Nat×Ob)):SV→Bool
 | .own i=>(o.lookup i).isNone
 | .pel i _ _=>(o.lookup i).isNone
 | .vsl i _ _=>(o.lookup i).isNone
 | .nst i=>(o.lookup i).isNone
 | .nel i _=>(o.lookup i).isNone
 | .pbox i _=>(o.lookup i).isNone
 | .omap i=>(o.lookup i).isNone
 | .dead=>true
 | _=>false
theorem O1 {o:List (Nat×Ob)}{v:Value}{d:SV}(h:d.gone o=true):bo P M0 w E o v d:=by
 have key:∀{i:Nat}{ob:Ob},(o.lookup i).isNone=true→o.lookup i=some ob→False:=fun h1 h2=>by rw[h2] at h1;cases h1
 cases d with
 | v c d=>cases h
 | own i=>exact fun _ _ q=>(key h q).elim
 | pel i j k=>exact fun _ _ q=>(key h q).elim
 | pbox i j=>exact fun _ _ q=>(key h q).elim
 | omap i=>exact fun _ _ q=>(key h q).elim
 | vsl i j k=>exact fun _ _ q=>(key h q).elim
 | fn f c=>cases h
 | hid f c=>cases h
 | nst i=>exact⟨fun _ _ _ q=>(key h q).elim,fun _ _ _ q=>(key h q).elim⟩
 | nel i j=>exact fun _ _ _ q=>(key h q).elim
 | dead=>trivial
theorem C9 (hn:s'.n=s.n)(ho:s'.o=s.o)(h:∀t d,s'.s.lookup t=some d→s.s.lookup t=some d∨(t<s.n∧d.gone s.o=true)):fJ P w0 M0 s s':=fun a w ⟨E,hs⟩ =>
 ⟨E, hs.size.trans hn.symm, hs.defers, fun t d ht => by
  rw[hn,ho]
  rcases h t d ht with h1|⟨h1,h2⟩
  ·exact hs.slots t d h1
  ·exact⟨h1,O1 h2⟩,by rw[ho];exact hs.wok⟩
theorem a8.W5 (u:Nat)(h:a8 P w0 M0 E s a w)(hnd:Nodup s.s=true)(aa:∀b,M0 b→b<w0.w.heap.size)(hl:s.o.lookup id=some (.arr e xs))(hu:u≠id) :
  ∃E':Env,E'.cur u=E.cur id∧a8 P w0 M0 E' { n:=s.n,s:=s.s.filter (fun p=>p.2.stays true u&&p.2.stays true id),o:=ins u (.arr e xs) (gY id (iR (fun d=>d.stays true u&&d.stays true id) s.o)) } a w:=by
 obtain⟨vals,g1,g2,g3⟩:=h.wok.objs id _ hl
 obtain⟨E',e1,e2,e3,e5⟩:∃E':Env,E'.cur u=E.cur id∧(∀i,i≠u→E'.cur i=E.cur i)∧E'.blk=E.blk∧E'.sub=E.sub :=
  ⟨{ E with cur:=fun i=>if i=u then E.cur id else E.cur i },if_pos rfl,fun i hi=>if_neg hi,rfl,rfl⟩
 have hN:∀i q,(if i=u then some (some (Ob.arr e xs)) else if i=id then some none else none:Option (Option Ob))=some q→(i=u∧q=some (.arr e xs))∨(i=id∧q=none):=fun i q hq=>by
  by_cases h1:i=u
  ·rw[if_pos h1] at hq;injection hq with hq;exact .inl ⟨h1,hq.symm⟩
  ·rw[if_neg h1] at hq
   by_cases h2:i=id
   ·rw[if_pos h2] at hq;injection hq with hq;exact .inr ⟨h2,hq.symm⟩
   ·rw[if_neg h2] at hq;cases hq
 refine⟨E',e1,?_⟩
 refine a8.wG (E':=E') (fun d=>d.stays true u&&d.stays true id) (fun i=>if i=u then some (some (.arr e xs)) else if i=id then some none else none) _ (fun i=>?_) (fun d=>rfl) (fun i ob hq hx=>?_) (fun i hq=>?_) h hnd aa (fun i hq=>?_) (fun x hx=>by rw[e3]) none ⟨rfl,rfl,rfl,Z1 _,fun _ _ _=>rfl⟩ (fun _=>Z1 _) (fun g hg=>by cases hg) (fun i ob b hq hb=>.inl ?_) (fun i ob i' ob' b hq hq' hb hb'=>?_) (fun rep sv lents i ob hq=>?_)
 ·rw[ax]
  by_cases q1:i=u
  ·rw[if_pos q1,if_pos q1]
  ·rw[if_neg q1,if_neg q1,c8]
   by_cases q2:i=id
   ·rw[if_pos q2,if_pos q2]
   ·rw[if_neg q2,if_neg q2];exact ga _ i s.o
 ·rcases hN i _ hq with⟨rfl,_⟩|⟨_,q⟩
  ·obtain⟨d,q1,q2⟩:=hx
   rw[gV q1] at q2;cases q2
  ·cases q
 ·rcases hN i _ hq with⟨_,q⟩|⟨rfl,_⟩
  ·cases q
  ·exact⟨e2 i (aaX hu),by rw[e3]⟩
 ·have hit:i≠u:=fun q=>by rw[if_pos q] at hq;cases hq
  exact⟨e2 i hit,by rw[e3],by rw[e5]⟩
 ·rcases hN i _ hq with⟨rfl,q⟩|⟨_,q⟩
  ·injection q with q;subst q
   refine⟨id,_,by rw[if_neg (aaX hu),if_pos J];simp,hl,?_⟩
   simpa only[bE,e1] using hb
  ·cases q
 ·rcases hN i _ hq with⟨rfl,_⟩|⟨_,q⟩
  ·rcases hN i' _ hq' with⟨rfl,_⟩|⟨_,q⟩
   ·rfl
   ·cases q
  ·cases q
 ·rcases hN i _ hq with⟨rfl,q⟩|⟨_,q⟩
  ·injection q with q;subst q
   exact⟨vals,by rw[e1];exact g1,g2,fun j d hd=>⟨(g3 j d hd).1,rep .pl _ _ (g3 j d hd).2 (by simp)⟩⟩
  ·cases q
theorem sQ (t u:Nat)(aa:∀b,M0 b→b<w0.w.heap.size)(hnd:Nodup s.s=true)(ht:s.s.lookup t=some (.own id))(hl:s.o.lookup id=some (.arr e xs))(hne:Nat.beq u id=false) :
  fJ P w0 M0 s (({ n:=s.n,s:=s.s.filter (fun p=>p.2.stays true u&&p.2.stays true id),o:=ins u (.arr e xs) (gY id (iR (fun d=>d.stays true u&&d.stays true id) s.o)) }:St).put t (.own u)):=by
 rintro a w ⟨E,hs⟩
 have h0:=hs.slots t _ ht
 obtain⟨E',e1,h1⟩:=hs.W5 u hnd aa hl (fun q=>by rw[q,abJ] at hne;cases hne)
 exact⟨E',h1.CV h0.1 fun e' xs' hh=>by rw[e1];exact h0.2 e xs hl⟩
end
section
variable {P:Program} {w0:Fr}{M0:Nat→Prop}
theorem mD (f:Nat×SV→Bool):∀l:List (Nat×SV),Nodup l=true→Nodup (l.filter f)=true
 | [],_=>rfl
 | (t, d) :: r, h => by
   simp only[Nodup,aae,aaJ] at h
   rw[aaN]
   split
   · simp only [Nodup, aae, aaJ]
     refine⟨?_,mD f r h.2⟩
     rw[abe] at h ⊢
     exact fun p hp=>h.1 p (aaS.1 hp).1
   · exact mD f r h.2
theorem I3 (t:Nat)(d:SV)(l:List (Nat×SV))(h:Nodup l=true):Nodup ((t,d) :: l.filter fun p=>!(Nat.beq p.1 t))=true:=by
 simp only[Nodup,aae,aaJ]
 refine⟨?_,mD _ l h⟩
 rw[abe]
 intro p hp
 have:=(aaS.1 hp).2
 intro hh
 rw[hh] at this
 cases this
theorem rJ (t:Nat)(d:SV)(l:List (Nat×SV))(u:Nat):((t,d) :: l.filter fun p=>!(Nat.beq p.1 t)).lookup u=if u=t then some d else l.lookup u:=by
 rw[ak]
 by_cases h:u=t
 ·rw[if_pos h,if_pos h]
 ·rw[if_neg h,if_neg h,bZ (fun i=>!(Nat.beq i t)) u l,if_pos]
  cases hq:Nat.beq u t with
  | false=>rfl
  | true=>exact absurd (aaM hq) h
def T5 (p:SV→Bool)(n t:Nat)(o2:List (Nat×Ob))(G:List (Nat×SV)):Bool:=G.all fun q=>Nat.beq q.1 t||(p q.2||(Nat.blt q.1 n&&q.2.gone o2))
theorem LH {p:SV→Bool}{n t:Nat}{o2:List (Nat×Ob)}{G:List (Nat×SV)}(h:T5 p n t o2 G=true){u:Nat}{d:SV}(hl:G.lookup u=some d)(hne:u≠t):p d=true∨(u<n∧d.gone o2=true):=by
 have:=aam.1 h _ (dD hl)
 simp only[aaO,aae] at this
 rcases this with h1|h1|⟨h1,h2⟩
 ·exact absurd (aaM h1) hne
 ·exact .inl h1
 ·exact .inr ⟨by simpa using h1,h2⟩
theorem Bl {G X:List (Nat×SV)}{o:Oper}{t:Nat}{d:SV}(hd:o.dst=some t)(hG:G.lookup t=some d):rI G X o=ins t d X:=by
 unfold rI;rw[hd];simp only[hG]
theorem Bm {n t:Nat}{d0:SV}{p:SV→Bool}{X G:List (Nat×SV)}{s:St}{o2:List (Nat×Ob)}(hnd:Nodup X=true)(dO:∀t d,X.lookup t=some d→G.lookup t=some d)(hok:T5 p n t o2 G=true)(hn:s.n=n)(ho:s.o=o2)
  (hs:∀u,s.s.lookup u=if u=t then some d0 else(X.filter fun q=>p q.2).lookup u):fJ P w0 M0 s ⟨n,ins t d0 X,o2⟩:=by
 refine C9 hn.symm ho.symm fun u d hu=>?_
 rw[hs u]
 rw[ax] at hu
 by_cases q:u=t
 ·rw[if_pos q] at hu ⊢;exact .inl hu
 ·rw[if_neg q] at hu ⊢
  rcases LH hok (dO u d hu) q with h|⟨h1,h2⟩
  ·exact .inl (iz p X u d hnd hu h)
  ·exact .inr ⟨by rw[hn];exact h1,by rw[ho];exact h2⟩
variable {o:Oper} {G X:List (Nat×SV)}{o1 o2:List (Nat×Ob)}{T e r:TypeId}{n t u v b k id id2:Nat}{xs ys:List AV}{cs cs2:List Cell}{y:Operand}
theorem O2 {n t:Nat}{d0:SV}{Y:List (Nat×SV)}{o1:List (Nat×Ob)}:fJ P w0 M0 ⟨n,ins t d0 Y,o1⟩ ⟨n,(t,d0) :: Y.filter (fun p=>!(Nat.beq p.1 t)),o1⟩ :=
 eL rfl rfl fun u d hu=>by
  show(ins t d0 Y).lookup u=some d
  rw[ax]
  rw[show(⟨n,(t,d0) :: Y.filter (fun p=>!(Nat.beq p.1 t)),o1⟩:St).s=(t,d0) :: Y.filter (fun p=>!(Nat.beq p.1 t)) from rfl,rJ] at hu
  exact hu
theorem lu (p:SV→Bool):∀ (l:List (Nat×SV)) (u:Nat),Nodup l=true→(l.filter fun q=>p q.2).lookup u=(l.lookup u).filter p
 | [],u,_=>rfl
 | (w, d) :: l, u, h => by
   have h':=h
   simp only[Nodup,aae,aaJ] at h'
   have ih:=lu p l u h'.2
   rw[aaN,ak]
   by_cases q:u=w
   · rw [if_pos q]
     by_cases hp:p d=true
     · rw[if_pos hp,ak,if_pos q];simp[Option.filter,hp]
     · rw [if_neg hp, ih]
       have:l.lookup u=none:=by
         cases hl:l.lookup u with
         | none=>rfl
         | some z =>
           have h1:=abe.1 h'.1 _ (dD hl)
           rw[q] at h1
           simp at h1
       rw[this];simp[Option.filter,hp]
   · rw [if_neg q]
     split
     · rw[ak,if_neg q];exact ih
     · exact ih
theorem db (ho:o.op=.call { callee:=.builtin .append,args:=#[.tmp u,y],argTypes:=#[T,T] })(hd:o.dst=some t)(hn:Nat.blt t n=true)(hnd:Nodup X=true)(hT:P.underlying T=some (.slice e))(hel:iS P e k b=true)
  (hu:X.lookup u=some (.own id))(hl:o1.lookup id=some (.arr e xs))(hy:Src P w0 M0 ⟨n,X,o1⟩ y k ys)(hb:(xs.length+ys.length)*b≤140737488355328)(hm:xs.length+ys.length≤4611686018427387904)(hne:Nat.beq t id=false)
  (dO:∀t d,X.lookup t=some d→G.lookup t=some d)(Sd:G.lookup t=some (.own t))
  (ho2:ins t (.arr e (xs++ys)) (gY id (iR (fun d=>d.stays true t&&d.stays true id) (ins id (.arr e (xs++ys)) (iE true id o1))))=o2)(hok:T5 (fun d=>d.stays true id&&(d.stays true t&&d.stays true id)) n t o2 G=true)(aa:∀b,M0 b→b<w0.w.heap.size) :
  ∃s',Step P w0 M0 o ⟨n,X,o1⟩ s'∧fJ P w0 M0 s' ⟨n,rI G X o,o2⟩:=by
 have hnf:=mD (fun p=>p.2.stays true id) X hnd
 have hnq:=I3 t (.own id) _ hnf
 refine⟨_,step_append (s:=⟨n,X,o1⟩) ho hd hn hnd hT hel (by show X.lookup u=_;exact hu) hl aa hy hb hm,?_⟩
 rw[Bl hd Sd]
 refine O2.trans ((sQ (id:=id) t t aa hnq (by rw[rJ,if_pos J]) (by show(ins id _ _).lookup id=_;rw[ax,if_pos J]) hne).trans ?_)
 refine Bm (p:=fun d=>d.stays true id&&(d.stays true t&&d.stays true id)) hnd dO hok J ho2 fun x=>?_
 show(ins t (SV.own t) (((t,SV.own id) :: List.filter (fun p=>!(Nat.beq p.1 t)) (X.filter fun p=>p.2.stays true id)).filter fun p=>p.2.stays true t&&p.2.stays true id)).lookup x=_
 rw[ax]
 by_cases q:x=t
 ·rw[if_pos q,if_pos q]
 ·rw[if_neg q,if_neg q,lu (fun d=>d.stays true t&&d.stays true id) _ x hnq,rJ,if_neg q,lu (fun d=>d.stays true id) _ x hnd,lu (fun d=>d.stays true id&&(d.stays true t&&d.stays true id)) _ x hnd]
  cases X.lookup x with
  | none=>rfl
  | some d=>cases h1:d.stays true id<;>cases h2:d.stays true t<;>simp[Option.filter,h1,h2]
end
section
variable {P:Program} {w0:Fr}{M0:Nat→Prop}{s:St}{o:Oper}{id u j k:Nat}{e r T:TypeId}{cs:List Cell}{xs:List AV}{x y:Operand}{ln:Option (Nat×dV)}
end
section
variable {P:Program} {w0:Fr}{M0:Nat→Prop}{ops:Array Oper}
def Bn (ops:Array Oper)(E:Nat→Nat)(m k:Nat):Bool:=Nat.ble k ops.size&&(List.range m).all fun q=>Nat.blt (E q) k&&(List.range q).all fun p=>(kL ops ops.size (E q)).contains (E p)&&!(Nat.beq (E p) (E q))
theorem Fx {id:Nat}{n:Nat}{s0:List (Nat×SV)}(m:Nat)(E:Nat→Nat)(O:Nat→List (Nat×Ob))(k:Nat)(G:List (Nat×SV)){Q':Exit→St→Prop}(hm:P.follows .mixedOrders=true)(hok:mY ops=true)(htl:fY ops k=true)(hmid:xa ops n k (Bk E m)=true)(hc:Bn ops E m k=true)
  (hG:∀t d,(G.filter fun p=>eG ops k #[] p.1).lookup t=some d→s0.lookup t=some d)(hnd:Nodup G=true)
  (hset:∀i t,i<k→(ops[i]?).bind (·.dst)=some t→∃d,G.lookup t=some d)
  (hP:∀p i o t d,p≤m→i<k→Bk E m i=false→ops[i]?=some o→o.dst=some t→G.lookup t=some d→(∀q,q<p→(kL ops ops.size (E q)).contains i=false)→(p<m→(kL ops ops.size i).contains (E p)=false)→Pure P w0 M0 o (ff ops o (St.ev ⟨n,G,O p⟩)) (O p) d)
  (hE:∀p o X,p<m→ops[E p]?=some o→Nodup X=true→(∀t d,X.lookup t=some d→G.lookup t=some d)→(∀t,t∈looks ops o→X.lookup t=G.lookup t)→∃s',Step P w0 M0 o ⟨n,X,O p⟩ s'∧fJ P w0 M0 s' ⟨n,rI G X o,O (p+1)⟩)
  (hend:ss P w0 M0 ops (fun s=>∃s',fJ P w0 M0 s s'∧Q' .normal s') k ⟨n,G,O m⟩):ao P w0 M0 (.region id ops true) ⟨n,s0,O 0⟩ Q':=by
 unfold Bn at hc
 rw[aae,aam] at hc
 have h1:∀q,q<m→E q<k∧∀p,p<q→(kL ops ops.size (E q)).contains (E p)=true∧E p≠E q:=fun q hq=>by
  have:=hc.2 q (aap.2 hq)
  rw[aae,aam] at this
  refine⟨by simpa using this.1,fun p hp=>?_⟩
  have h2:=this.2 p (aap.2 hp)
  rw[aae] at h2
  exact⟨h2.1,fun e=>by rw[e,abJ] at h2;exact absurd h2.2 acg⟩
 exact Fw m E O k G hm hok htl hmid hc.1 (fun p hp=>(h1 p hp).1) (fun p q hpq hq=>((h1 q hq).2 p hpq).1) (fun p q hpq hq=>((h1 q hq).2 p hpq).2) hG hnd hset hP hE hend
theorem jR {X:List (Nat×SV)}{o:List (Nat×Ob)}{n t:Nat}{c:fQ}{xs:List AV}(h:X.lookup t=some (.v c (.sl xs))):viewAt (⟨n,X,o⟩:St).ev (⟨n,X,o⟩:St).o (.tmp t)=some (c,.sl xs):=by
 simp only[viewAt,St.ev,h];rfl
end
section
variable {P:Program} {w0:Fr}{M0:Nat→Prop}
end
end Go.Am
